/-
  Part 5 of the proof of loadMost_holds: declarations of several texts, in build order. No condition on a program.
-/
import Derived.Test.YtljhdcclajikiaaGreatDoorMost04
import Derived.Test.YtljhdcclajikiaaGreatDoorMost03
namespace Go.Proofs.YtljhdcclajikiaaGreatDoor
set_option linter.all false
set_option linter.unusedVariables false
set_option linter.unusedSimpArgs false
open Go.RowKit
theorem Chg.trans' {S : List Nat} {a b c : World} (k : Chg S b c) (h : Chg S a b) : Chg S a c := h.trans k
theorem everyInt1_any {g : FuncId} {fs cs : List Value} {b : Nat} {u : Value} {p : Bool} {M L : List Fact} {w : World} (hen : Enters Tryz.prog g) (hb : OldB w b [.func (.func g) fs.toArray cs.toArray]) (hbM : b ∉ feet M) (hM : Sat (feet M) w M w)
    (hg : ∀ w', Sat (feet M) w M w' → CallsK Tryz.prog g (fs ++ [u] ++ cs).toArray M w' Unit (fun _ => .bool p) (fun _ => L)) :
    CallsK Tryz.prog 112 #[u, .pointer (some ⟨b, 0, none⟩)] M w Unit (fun _ => .bool (!p)) (fun _ => L) := by
  have hAp : Apart (feet M) (some ⟨b, 0, none⟩) := fun q hq => by cases hq; exact hbM
  refine K_enter (args := [u, .pointer (some ⟨b, 0, none⟩)]) (S := feet M) (K := M) Tryz.func112 rfl Tryz.ntmps112 rfl hM ?_
  refine TW.seq fun Y1 hY1 => ?_
  refine TW.region ?_
  refine TL.p Pu.as ?_
  refine TL.nil ?_
  refine TQ.thenN (hY1 _ _ ?_)
  refine TW.seq fun Y2 hY2 => ?_
  refine TW.region ?_
  refine TL.p (by first | exact (Pu.ld ty_sc111) | exact (Pu.ldo ty_sc111)) ?_
  refine TL.p Pu.mv ?_
  refine TL.cvk rfl rfl hen (by rw [List.append_nil]) (fun w hw => by
      exact hg w hw) ?_
  intro _
  refine TL.p Pu.no ?_
  refine TL.p Pu.as ?_
  refine TL.nil ?_
  refine TQ.thenN (hY2 _ _ ?_)
  refine TW.ret ?_
  refine TQ.ret Tryz.results112 rfl ((.tmp rfl .nil)) ?_
  exact fun w hw => ⟨(), rfl, by simpa using hw⟩
theorem everyInt_st {g : FuncId} {fs cs : List Value} {A : Option Addr} {n cp : Nat} {v : Nat → Int} {p : Nat → Bool} {M : Nat → List Fact} {w : World} (hen : Enters Tryz.prog g) (hn : n ≤ 9223372036854775807)
    (hR : RdR w 1 A n (fun k => [.int .i64 (v k)])) (hA : 0 < n → Apart (feet (M 0)) A) (hM : Sat (feet (M 0)) w (M 0) w) (hfe : ∀ k, feet (M k) = feet (M 0))
    (hg : ∀ k, k < n → (∀ j, j < k → p j = true) → ∀ w', Sat (feet (M 0)) w (M k) w' → CallsK Tryz.prog g (fs ++ [Value.int .i64 (v k)] ++ cs).toArray (M k) w' Unit (fun _ => .bool (p k)) (fun _ => M (k + 1))) :
    CallsK Tryz.prog 86 #[.slice A n cp, .func (.func g) fs.toArray cs.toArray] (M 0) w (Fst (fun k => !p k) n) (fun x => .bool (!decide (x.1 < n))) (fun x => M (aft n x.1)) := by
  refine K_enter (S := feet (M 0)) (K := M 0) Tryz.func86 rfl Tryz.ntmps86 rfl hM ?_
  refine TW.seq fun Y1 hY1 => ?_
  refine TW.region ?_
  refine TL.m Mk.bx ?_
  intro b1
  refine TL.p Pu.as ?_
  refine TL.nil ?_
  refine TQ.thenN (hY1 _ _ ?_)
  refine TW.seq fun Y2 hY2 => ?_
  refine TW.region ?_
  refine TL.p Pu.mv ?_
  refine TL.p Pu.fn ?_
  refine TL.call rfl (enters Tryz.func70 rfl rfl) (List.perm_append_comm (l₁ := [_])) rfl (fun w hw => by
      have hB : Blk w b1 _ #[.func (.func g) fs.toArray cs.toArray] := hw.holds _ (List.mem_cons_self ..)
      have hbM : b1 ∉ feet (M 0) := fun hm => (List.nodup_cons.1 (show (b1 :: feet (M 0)).Nodup from hw.nd)).1 hm
      have hw2 : Sat (feet (M 0)) _ (M 0) w := Has.sat ⟨[_], List.perm_append_comm (l₁ := [_])⟩ hw
      refine hasInt_st (p := fun k => !p k) (fs := []) (cs := [.pointer (some ⟨b1, 0, none⟩)]) (enters Tryz.func112 rfl rfl) hn (hR.sat0 hw hA) hA hw2.self hfe (fun k hk hp w' hw' => ?_)
      have h1 : OldB w' b1 [.func (.func g) fs.toArray cs.toArray] := (OldB.of_blk (cs := [_]) hB).sat hw' hbM
      have h2 : Sat (feet (M k)) w' (M k) w' := hw'.self
      refine everyInt1_any (p := p k)  hen h1 (by rw [hfe]; exact hbM) h2 fun w3 hw3 => hg k hk (fun j hj => by simpa using hp j hj) w3 ?_
      exact hw3.from (hw'.chg.trans' hw.chg) (fun q hq => .inl (by rw [← hfe k]; exact hq))) ?_
  intro x
  refine TL.p Pu.no ?_
  refine TL.p Pu.as ?_
  refine TL.nil ?_
  refine TQ.thenN (hY2 _ _ ?_)
  refine TW.ret ?_
  refine TQ.ret Tryz.results86 rfl ((.tmp rfl .nil)) ?_
  exact fun w hw => ⟨x, rfl, Has.sat ⟨[_], List.Perm.refl _⟩ hw⟩
theorem indexPack_any {g : FuncId} {fs cs : List Value} {A : Option Addr} {n cp : Nat} {v : Nat → Nat → Int} {p : Nat → Bool} {M : Nat → List Fact} {w : World} (hen : Enters Tryz.prog g) (hn : n ≤ 9223372036854775807)
    (hR : RdR w 11 A n (fun k => packL (v k))) (hA : 0 < n → Apart (feet (M 0)) A) (hM : Sat (feet (M 0)) w (M 0) w) (hfe : ∀ k, feet (M k) = feet (M 0))
    (hg : ∀ k, k < n → (∀ j, j < k → p j = false) → ∀ w', Sat (feet (M 0)) w (M k) w' → CallsK Tryz.prog g (fs ++ [Value.agg (packL (v k)).toArray] ++ cs).toArray (M k) w' Unit (fun _ => .bool (p k)) (fun _ => M (k + 1))) :
    CallsK Tryz.prog 111 #[.slice A n cp, .func (.func g) fs.toArray cs.toArray] (M 0) w (Fst p n) (fun x => .int .i64 (if x.1 < n then (x.1 : Int) else -1)) (fun x => M (aft n x.1)) := by
  refine K_enter (S := feet (M 0)) (K := M 0) Tryz.func111 rfl Tryz.ntmps111 rfl hM ?_
  refine TW.seq fun Y1 hY1 => ?_
  refine TW.region ?_
  refine TL.p Pu.as ?_
  refine TL.nil ?_
  refine TQ.thenN (hY1 _ _ ?_)
  refine TW.seq fun Y2 hY2 => ?_
  refine TW.seq fun Y3 hY3 => ?_
  refine TW.region ?_
  refine TL.p Pu.mv ?_
  refine TL.p (Pu.ln Tryz.underlying22) ?_
  refine TL.p Pu.mv ?_
  refine TL.nil ?_
  refine TQ.thenN (hY3 _ _ ?_)
  refine TW.block ?_
  refine TW.loop1 (fun (k : Nat) => [(8, .int .i64 (k : Int)), (7, .int .i64 (n : Int)), (0, .slice A n cp), (1, .func (.func g) fs.toArray cs.toArray)]) (fun k => M k) (fun k => k ≤ n ∧ ∀ j, j < k → p j = false) (fun k => n - k) 0 (by repeat (first | exact trivial | refine ⟨rfl, ?_⟩ | refine ⟨trivial, ?_⟩)) ?_ ?_ ?_
  · exact KSub.refl _
  · exact ⟨by omega, fun j hj => by omega⟩
  rintro k ⟨hk, hall⟩ Z0 hZ0
  refine TW.seq fun Y4 hY4 => ?_
  refine TW.region ?_
  refine TL.p Pu.lt ?_
  refine TL.nil ?_
  refine TQ.thenN (hY4 _ _ ?_)
  refine TW.seq fun Y5 hY5 => ?_
  refine TW.cond rfl (fun hc0 => ?_) (fun hc0 => ?_)
  · try simp only [decide_eq_true_eq, decide_eq_false_iff_not, Bool.not_eq_true', Bool.not_eq_false', Bool.and_eq_true, Bool.or_eq_true, Bool.and_eq_false_iff, Bool.or_eq_false_iff, Int.not_lt, Int.not_le] at hc0
    have hkn : k < n := by omega
    have hA := hA (by omega)
    refine TW.skip ?_
    refine TQ.thenN (hY5 _ _ ?_)
    refine TW.seq fun Y6 hY6 => ?_
    refine TW.block ?_
    refine TW.seq fun Y7 hY7 => ?_
    refine TW.region ?_
    refine TL.p Pu.mv ?_
    refine TL.p Pu.as ?_
    refine TL.nil ?_
    refine TQ.thenN (hY7 _ _ ?_)
    refine TW.seq fun Y8 hY8 => ?_
    refine TW.region ?_
    refine TL.p Pu.mv ?_
    refine TL.p Pu.mv ?_
    refine TL.p Pu.mv ?_
    refine TL.p (Pu.el ty_et22) ?_
    refine TL.p (Pu.lds ty_ag58) ?_
    refine TL.cvk rfl rfl hen (by rw [List.append_nil]) (fun w hw => by
        exact hg k (by omega) hall w hw) ?_
    intro _
    refine TL.nil ?_
    refine TQ.thenN (hY8 _ _ ?_)
    refine TW.cond rfl (fun hc1 => ?_) (fun hc1 => ?_)
    · try simp only [decide_eq_true_eq, decide_eq_false_iff_not, Bool.not_eq_true', Bool.not_eq_false', Bool.and_eq_true, Bool.or_eq_true, Bool.and_eq_false_iff, Bool.or_eq_false_iff, Int.not_lt, Int.not_le] at hc1
      refine TW.seq fun Y9 hY9 => ?_
      refine TW.region ?_
      refine TL.p Pu.mv ?_
      refine TL.p Pu.as ?_
      refine TL.nil ?_
      refine TQ.thenN (hY9 _ _ ?_)
      refine TW.ret ?_
      refine TQ.blkR ?_
      refine TQ.thenR ?_
      refine TQ.thenR ?_
      refine TQ.blkR ?_
      refine TQ.thenR ?_
      refine TQ.ret Tryz.results111 rfl ((.tmp rfl .nil)) ?_
      exact fun w hw => ⟨⟨k, by omega, hall, fun _ => hc1⟩, by simp [hkn]; rfl, by simpa [aft, hkn] using hw⟩
    · try simp only [decide_eq_true_eq, decide_eq_false_iff_not, Bool.not_eq_true', Bool.not_eq_false', Bool.and_eq_true, Bool.or_eq_true, Bool.and_eq_false_iff, Bool.or_eq_false_iff, Int.not_lt, Int.not_le] at hc1
      refine TW.skip ?_
      refine TQ.blkN ?_
      refine TQ.thenN (hY6 _ _ ?_)
      refine TW.region ?_
      refine TL.p Pu.ad ?_
      refine TL.p Pu.mv ?_
      refine TL.nil ?_
      refine TQ.thenN (hZ0 (k + 1) _ _ ?_ ?_ (by repeat (first | exact trivial | refine ⟨rfl, ?_⟩ | refine ⟨trivial, ?_⟩)) ?_)
      · refine ⟨by omega, fun j hj => ?_⟩
        by_cases h : j = k
        · subst h; exact hc1
        · exact hall j (by omega)
      · exact (by first | omega | (simp only []; omega) | (simp; omega))
      · rw [List.append_nil]; exact KSub.refl _
  · try simp only [decide_eq_true_eq, decide_eq_false_iff_not, Bool.not_eq_true', Bool.not_eq_false', Bool.and_eq_true, Bool.or_eq_true, Bool.and_eq_false_iff, Bool.or_eq_false_iff, Int.not_lt, Int.not_le] at hc0
    have hkn : k = n := by omega
    refine TW.exit ?_
    refine TQ.thenX ?_
    refine TQ.thenX ?_
    refine TQ.blkX ?_
    refine TQ.thenN (hY2 _ _ ?_)
    refine TW.seq fun Y10 hY10 => ?_
    refine TW.region ?_
    refine TL.p Pu.as ?_
    refine TL.nil ?_
    refine TQ.thenN (hY10 _ _ ?_)
    refine TW.ret ?_
    refine TQ.ret Tryz.results111 rfl ((.tmp rfl .nil)) ?_
    exact fun w hw => ⟨⟨k, by omega, hall, fun h => by omega⟩, by simp [hkn]; rfl, by simpa [aft, hkn] using hw⟩
theorem hasPack_st {g : FuncId} {fs cs : List Value} {A : Option Addr} {n cp : Nat} {v : Nat → Nat → Int} {p : Nat → Bool} {M : Nat → List Fact} {w : World} (hen : Enters Tryz.prog g) (hn : n ≤ 9223372036854775807)
    (hR : RdR w 11 A n (fun k => packL (v k))) (hA : 0 < n → Apart (feet (M 0)) A) (hM : Sat (feet (M 0)) w (M 0) w) (hfe : ∀ k, feet (M k) = feet (M 0))
    (hg : ∀ k, k < n → (∀ j, j < k → p j = false) → ∀ w', Sat (feet (M 0)) w (M k) w' → CallsK Tryz.prog g (fs ++ [Value.agg (packL (v k)).toArray] ++ cs).toArray (M k) w' Unit (fun _ => .bool (p k)) (fun _ => M (k + 1))) :
    CallsK Tryz.prog 84 #[.slice A n cp, .func (.func g) fs.toArray cs.toArray] (M 0) w (Fst p n) (fun x => .bool (decide (x.1 < n))) (fun x => M (aft n x.1)) := by
  refine K_enter (S := feet (M 0)) (K := M 0) Tryz.func84 rfl Tryz.ntmps84 rfl hM ?_
  refine TW.seq fun Y1 hY1 => ?_
  refine TW.region ?_
  refine TL.p Pu.as ?_
  refine TL.nil ?_
  refine TQ.thenN (hY1 _ _ ?_)
  refine TW.seq fun Y2 hY2 => ?_
  refine TW.region ?_
  refine TL.p Pu.mv ?_
  refine TL.p Pu.mv ?_
  refine TL.call rfl (enters Tryz.func111 rfl rfl) (by rw [List.append_nil]) rfl (fun w hw => by
      exact indexPack_any hen hn (hR.sat0 hw hA) hA hw.self hfe (fun k hk hp w' hw' => hg k hk hp w' (hw'.from hw.chg fun _ hb => .inl hb))) ?_
  intro x
  refine TL.p Pu.ge ?_
  refine TL.p Pu.as ?_
  refine TL.nil ?_
  refine TQ.thenN (hY2 _ _ ?_)
  refine TW.ret ?_
  refine TQ.ret Tryz.results84 rfl ((.tmp rfl .nil)) ?_
  exact fun w hw => ⟨x, by by_cases h : x.1 < n <;> simp [retV, h], by simpa using hw⟩
theorem everyPack1_any {g : FuncId} {fs cs : List Value} {b : Nat} {u : Nat → Int} {p : Bool} {M L : List Fact} {w : World} (hen : Enters Tryz.prog g) (hb : OldB w b [.func (.func g) fs.toArray cs.toArray]) (hbM : b ∉ feet M) (hM : Sat (feet M) w M w)
    (hg : ∀ w', Sat (feet M) w M w' → CallsK Tryz.prog g (fs ++ [Value.agg (packL u).toArray] ++ cs).toArray M w' Unit (fun _ => .bool p) (fun _ => L)) :
    CallsK Tryz.prog 85 #[Value.agg (packL u).toArray, .pointer (some ⟨b, 0, none⟩)] M w Unit (fun _ => .bool (!p)) (fun _ => L) := by
  have hAp : Apart (feet M) (some ⟨b, 0, none⟩) := fun q hq => by cases hq; exact hbM
  refine K_enter (args := [Value.agg (packL u).toArray, .pointer (some ⟨b, 0, none⟩)]) (S := feet M) (K := M) Tryz.func85 rfl Tryz.ntmps85 rfl hM ?_
  refine TW.seq fun Y1 hY1 => ?_
  refine TW.region ?_
  refine TL.m Mk.bx ?_
  intro b1
  refine TL.p Pu.as ?_
  refine TL.nil ?_
  refine TQ.thenN (hY1 _ _ ?_)
  refine TW.seq fun Y2 hY2 => ?_
  refine TW.region ?_
  refine TL.p (by first | exact (Pu.ld ty_sc95) | exact (Pu.ldo ty_sc95)) ?_
  refine TL.p (by first | exact (Pu.lds ty_ag58) | exact (Pu.ldso ty_ag58)) ?_
  refine TL.cvk rfl rfl hen (List.perm_append_comm (l₁ := [_])) (fun w hw => by
      exact hg w (Has.sat ⟨[_], List.perm_append_comm (l₁ := [_])⟩ hw)) ?_
  intro _
  refine TL.p Pu.no ?_
  refine TL.p Pu.as ?_
  refine TL.nil ?_
  refine TQ.thenN (hY2 _ _ ?_)
  refine TW.ret ?_
  refine TQ.ret Tryz.results85 rfl ((.tmp rfl .nil)) ?_
  exact fun w hw => ⟨(), rfl, Has.sat ⟨[_], List.Perm.refl _⟩ hw⟩
theorem everyPack_st {g : FuncId} {fs cs : List Value} {A : Option Addr} {n cp : Nat} {v : Nat → Nat → Int} {p : Nat → Bool} {M : Nat → List Fact} {w : World} (hen : Enters Tryz.prog g) (hn : n ≤ 9223372036854775807)
    (hR : RdR w 11 A n (fun k => packL (v k))) (hA : 0 < n → Apart (feet (M 0)) A) (hM : Sat (feet (M 0)) w (M 0) w) (hfe : ∀ k, feet (M k) = feet (M 0))
    (hg : ∀ k, k < n → (∀ j, j < k → p j = true) → ∀ w', Sat (feet (M 0)) w (M k) w' → CallsK Tryz.prog g (fs ++ [Value.agg (packL (v k)).toArray] ++ cs).toArray (M k) w' Unit (fun _ => .bool (p k)) (fun _ => M (k + 1))) :
    CallsK Tryz.prog 55 #[.slice A n cp, .func (.func g) fs.toArray cs.toArray] (M 0) w (Fst (fun k => !p k) n) (fun x => .bool (!decide (x.1 < n))) (fun x => M (aft n x.1)) := by
  refine K_enter (S := feet (M 0)) (K := M 0) Tryz.func55 rfl Tryz.ntmps55 rfl hM ?_
  refine TW.seq fun Y1 hY1 => ?_
  refine TW.region ?_
  refine TL.m Mk.bx ?_
  intro b1
  refine TL.p Pu.as ?_
  refine TL.nil ?_
  refine TQ.thenN (hY1 _ _ ?_)
  refine TW.seq fun Y2 hY2 => ?_
  refine TW.region ?_
  refine TL.p Pu.mv ?_
  refine TL.p Pu.fn ?_
  refine TL.call rfl (enters Tryz.func84 rfl rfl) (List.perm_append_comm (l₁ := [_])) rfl (fun w hw => by
      have hB : Blk w b1 _ #[.func (.func g) fs.toArray cs.toArray] := hw.holds _ (List.mem_cons_self ..)
      have hbM : b1 ∉ feet (M 0) := fun hm => (List.nodup_cons.1 (show (b1 :: feet (M 0)).Nodup from hw.nd)).1 hm
      have hw2 : Sat (feet (M 0)) _ (M 0) w := Has.sat ⟨[_], List.perm_append_comm (l₁ := [_])⟩ hw
      refine hasPack_st (p := fun k => !p k) (fs := []) (cs := [.pointer (some ⟨b1, 0, none⟩)]) (enters Tryz.func85 rfl rfl) hn (hR.sat0 hw hA) hA hw2.self hfe (fun k hk hp w' hw' => ?_)
      have h1 : OldB w' b1 [.func (.func g) fs.toArray cs.toArray] := (OldB.of_blk (cs := [_]) hB).sat hw' hbM
      have h2 : Sat (feet (M k)) w' (M k) w' := hw'.self
      refine everyPack1_any (p := p k) (u := v k) hen h1 (by rw [hfe]; exact hbM) h2 fun w3 hw3 => hg k hk (fun j hj => by simpa using hp j hj) w3 ?_
      exact hw3.from (hw'.chg.trans' hw.chg) (fun q hq => .inl (by rw [← hfe k]; exact hq))) ?_
  intro x
  refine TL.p Pu.no ?_
  refine TL.p Pu.as ?_
  refine TL.nil ?_
  refine TQ.thenN (hY2 _ _ ?_)
  refine TW.ret ?_
  refine TQ.ret Tryz.results55 rfl ((.tmp rfl .nil)) ?_
  exact fun w hw => ⟨x, rfl, Has.sat ⟨[_], List.Perm.refl _⟩ hw⟩
end Go.Proofs.YtljhdcclajikiaaGreatDoor
namespace Go.Proofs.YtljhdcclajikiaaGreatDoor
set_option linter.all false
set_option linter.unusedVariables false
set_option linter.unusedSimpArgs false
open Go.RowKit
theorem grow_any (k : Nat) (w : World) (hk : k ≤ 1000000000) (r : Nat → List Value) :
    CallsK Tryz.prog 92 #[.slice none 0 0, .int .i64 k] [] w (Option Addr × Nat) (fun x => .slice x.1 0 x.2) (fun x => [.own x.1 0 x.2 3 1 r]) := by
  refine K_enter (S := []) (K := []) Tryz.func92 rfl Tryz.ntmps92 rfl (Sat.start _) ?_
  refine TW.seq fun Y1 hY1 => ?_
  refine TW.region ?_
  refine TL.p Pu.as ?_
  refine TL.nil ?_
  refine TQ.thenN (hY1 _ _ ?_)
  refine TW.seq fun Y2 hY2 => ?_
  refine TW.seq fun Y3 hY3 => ?_
  refine TW.region ?_
  refine TL.p Pu.mv ?_
  refine TL.p Pu.lt ?_
  refine TL.nil ?_
  refine TQ.thenN (hY3 _ _ ?_)
  refine TW.condF rfl ((by first | (simp; done) | (simp; omega))) ?_
  refine TW.skip ?_
  refine TQ.thenN (hY2 _ _ ?_)
  refine TW.seq fun Y4 hY4 => ?_
  refine TW.seq fun Y5 hY5 => ?_
  refine TW.region ?_
  refine TL.p Pu.mv ?_
  refine TL.p Pu.mv ?_
  refine TL.p (Pu.cp Tryz.underlying24) ?_
  refine TL.p Pu.mv ?_
  refine TL.p (Pu.ln Tryz.underlying24) ?_
  refine TL.p Pu.sb ?_
  refine TL.p Pu.sb ?_
  refine TL.p Pu.as ?_
  refine TL.nil ?_
  refine TQ.thenN (hY5 _ _ ?_)
  refine TW.seq fun Y6 hY6 => ?_
  refine TW.region ?_
  refine TL.p Pu.mv ?_
  refine TL.p Pu.gt ?_
  refine TL.nil ?_
  refine TQ.thenN (hY6 _ _ ?_)
  refine TW.cond rfl (fun hc1 => ?_) (fun hc1 => ?_)
  · try simp only [decide_eq_true_eq, decide_eq_false_iff_not, Bool.not_eq_true', Bool.not_eq_false', Bool.and_eq_true, Bool.or_eq_true, Bool.and_eq_false_iff, Bool.or_eq_false_iff, Int.not_lt, Int.not_le] at hc1
    refine TW.region ?_
    refine TL.p Pu.mv ?_
    refine TL.p Pu.mv ?_
    refine TL.p (Pu.cp Tryz.underlying24) ?_
    refine TL.p (Pu.sh ty_et24) ?_
    refine TL.p Pu.mv ?_
    refine TL.az (r := r) ty_et24 Tryz.underlying3 ?_
    intro g1 c1 hc1 hm1
    refine TL.p Pu.mv ?_
    refine TL.p (Pu.ln Tryz.underlying24) ?_
    refine TL.p (Pu.sh ty_et24) ?_
    refine TL.p Pu.as ?_
    refine TL.nil ?_
    refine TQ.thenN (hY4 _ _ ?_)
    refine TW.seq fun Y7 hY7 => ?_
    refine TW.region ?_
    refine TL.p Pu.mv ?_
    refine TL.p Pu.as ?_
    refine TL.nil ?_
    refine TQ.thenN (hY7 _ _ ?_)
    refine TW.ret ?_
    refine TQ.ret Tryz.results92 rfl ((.tmp rfl .nil)) ?_
    exact fun w hw => ⟨(some ⟨g1, 0, none⟩, c1), rfl, hw⟩
  · try simp only [decide_eq_true_eq, decide_eq_false_iff_not, Bool.not_eq_true', Bool.not_eq_false', Bool.and_eq_true, Bool.or_eq_true, Bool.and_eq_false_iff, Bool.or_eq_false_iff, Int.not_lt, Int.not_le] at hc1
    refine TW.skip ?_
    refine TQ.thenN (hY4 _ _ ?_)
    refine TW.seq fun Y8 hY8 => ?_
    refine TW.region ?_
    refine TL.p Pu.mv ?_
    refine TL.p Pu.as ?_
    refine TL.nil ?_
    refine TQ.thenN (hY8 _ _ ?_)
    refine TW.ret ?_
    refine TQ.ret Tryz.results92 rfl ((.tmp rfl .nil)) ?_
    exact fun w hw => ⟨(none, 0), rfl, hw.sub (KSub.nilOwn KSub.nil)⟩
def tot (l : Nat → Nat) : Nat → Nat
  | 0 => 0
  | q + 1 => tot l q + l q
def catN (l : Nat → Nat) (s : Nat → Nat → List Value) : Nat → Nat → List Value
  | 0 => fun _ => []
  | q + 1 => catR (tot l q) (catN l s q) (s q)
theorem tot_mono {l : Nat → Nat} {p q : Nat} (h : p ≤ q) : tot l p ≤ tot l q := by
  induction q with
  | zero => have : p = 0 := by omega
            subst this; exact Nat.le_refl _
  | succ q ih =>
    by_cases hp : p = q + 1
    · subst hp; exact Nat.le_refl _
    · have := ih (by omega); simp only [tot]; omega
theorem concat_any {A : Option Addr} {m cp : Nat} {a : Nat → Option Addr} {l c : Nat → Nat} {v : Nat → Nat → Int} {w : World} (hm : m ≤ 1000000000) (ht : tot l m ≤ 1000000000)
    (hR : RdR w 1 A m (fun i => [.slice (a i) (l i) (c i)])) (hI : ∀ i, i < m → RdR w 1 (a i) (l i) (fun k => [.int .i64 (v i k)])) :
    CallsK Tryz.prog 63 #[.slice A m cp] [] w (Option Addr × Nat) (fun x => .slice x.1 (tot l m) x.2) (fun x => [.own x.1 (tot l m) x.2 3 1 (catN l (fun i k => [.int .i64 (v i k)]) m)]) := by
  refine K_enter (S := []) (K := []) Tryz.func63 rfl Tryz.ntmps63 rfl (Sat.start _) ?_
  refine TW.seq fun Y1 hY1 => ?_
  refine TW.region ?_
  refine TL.p Pu.as ?_
  refine TL.nil ?_
  refine TQ.thenN (hY1 _ _ ?_)
  refine TW.seq fun Y2 hY2 => ?_
  refine TW.region ?_
  refine TL.p Pu.as ?_
  refine TL.nil ?_
  refine TQ.thenN (hY2 _ _ ?_)
  refine TW.seq fun Y3 hY3 => ?_
  refine TW.seq fun Y4 hY4 => ?_
  refine TW.region ?_
  refine TL.p Pu.mv ?_
  refine TL.p (Pu.ln Tryz.underlying91) ?_
  refine TL.p Pu.mv ?_
  refine TL.nil ?_
  refine TQ.thenN (hY4 _ _ ?_)
  refine TW.block ?_
  refine TW.loop2 (fun (q : Nat) (z : Int) => [(11, .int .i64 (q : Int)), (10, .int .i64 (m : Int)), (9, .slice A m cp), (0, .slice A m cp), (3, .int .i64 z)]) (fun q z => []) (fun q z => q ≤ m ∧ z = (tot l q : Int)) (fun q z => m - q) 0 _ (by repeat (first | exact trivial | refine ⟨rfl, ?_⟩ | refine ⟨trivial, ?_⟩)) ?_ ?_ ?_
  · exact (by repeat (first | exact KSub.nil | refine KSub.cons (by repeat (first | exact Pick.hd | apply Pick.tl)) ?_))
  · exact ⟨by omega, rfl⟩
  rintro q z ⟨hq, hz⟩ Z0 hZ0
  refine TW.seq fun Y5 hY5 => ?_
  refine TW.region ?_
  refine TL.p Pu.lt ?_
  refine TL.nil ?_
  refine TQ.thenN (hY5 _ _ ?_)
  refine TW.seq fun Y6 hY6 => ?_
  refine TW.cond rfl (fun hc0 => ?_) (fun hc0 => ?_)
  · try simp only [decide_eq_true_eq, decide_eq_false_iff_not, Bool.not_eq_true', Bool.not_eq_false', Bool.and_eq_true, Bool.or_eq_true, Bool.and_eq_false_iff, Bool.or_eq_false_iff, Int.not_lt, Int.not_le] at hc0
    have hqm : q < m := by omega
    have h1 := tot_mono (l := l) (show q + 1 ≤ m by omega)
    simp only [tot] at h1
    refine TW.skip ?_
    refine TQ.thenN (hY6 _ _ ?_)
    refine TW.seq fun Y7 hY7 => ?_
    refine TW.block ?_
    refine TW.seq fun Y8 hY8 => ?_
    refine TW.region ?_
    refine TL.p (Pu.el ty_et91) ?_
    refine TL.p (Pu.ld ty_sc24) ?_
    refine TL.p Pu.as ?_
    refine TL.nil ?_
    refine TQ.thenN (hY8 _ _ ?_)
    refine TW.seq fun Y9 hY9 => ?_
    refine TW.region ?_
    refine TL.p Pu.mv ?_
    refine TL.p Pu.mv ?_
    refine TL.p (Pu.ln Tryz.underlying24) ?_
    refine TL.p Pu.ad ?_
    refine TL.p Pu.as ?_
    refine TL.nil ?_
    refine TQ.thenN (hY9 _ _ ?_)
    refine TW.seq fun Y10 hY10 => ?_
    refine TW.region ?_
    refine TL.p Pu.mv ?_
    refine TL.p Pu.lt ?_
    refine TL.nil ?_
    refine TQ.thenN (hY10 _ _ ?_)
    refine TW.condF rfl ((by first | (simp; done) | (simp; omega))) ?_
    refine TW.skip ?_
    refine TQ.blkN ?_
    refine TQ.thenN (hY7 _ _ ?_)
    refine TW.region ?_
    refine TL.p Pu.ad ?_
    refine TL.p Pu.mv ?_
    refine TL.nil ?_
    refine TQ.thenN (hZ0 (q + 1) _ _ _ ?_ ?_ (by repeat (first | exact trivial | refine ⟨rfl, ?_⟩ | refine ⟨trivial, ?_⟩)) ?_)
    · exact ⟨by omega, by simp only [tot]; omega⟩
    · exact (by first | omega | (simp only []; omega) | (simp; omega))
    · exact (by repeat (first | exact KSub.nil | refine KSub.cons (by repeat (first | exact Pick.hd | apply Pick.tl)) ?_))
  · try simp only [decide_eq_true_eq, decide_eq_false_iff_not, Bool.not_eq_true', Bool.not_eq_false', Bool.and_eq_true, Bool.or_eq_true, Bool.and_eq_false_iff, Bool.or_eq_false_iff, Int.not_lt, Int.not_le] at hc0
    refine TW.exit ?_
    refine TQ.thenX ?_
    refine TQ.thenX ?_
    refine TQ.blkX ?_
    refine TQ.thenN (hY3 _ _ ?_)
    refine TW.seq fun Y11 hY11 => ?_
    refine TW.region ?_
    refine TL.p Pu.mv ?_
    refine TL.call (M := []) rfl (enters Tryz.func92 rfl rfl) (List.Perm.refl _) rfl (fun w hw => by
        obtain rfl : q = m := by omega
        subst hz
        exact grow_any _ w ht (fun _ => [])) ?_
    rintro ⟨A0, c0⟩
    refine TL.p Pu.as ?_
    refine TL.nil ?_
    refine TQ.thenN (hY11 _ _ ?_)
    refine TW.seq fun Y12 hY12 => ?_
    refine TW.seq fun Y13 hY13 => ?_
    refine TW.region ?_
    refine TL.p Pu.mv ?_
    refine TL.p (Pu.ln Tryz.underlying91) ?_
    refine TL.p Pu.mv ?_
    refine TL.nil ?_
    refine TQ.thenN (hY13 _ _ ?_)
    refine TW.block ?_
    refine TW.loop3 (fun (q : Nat) (A1 : Option Addr) (c1 : Nat) => [(27, .int .i64 (q : Int)), (26, .int .i64 (m : Int)), (25, .slice A m cp), (6, .slice A1 (tot l q) c1)]) (fun q A1 c1 => [.own A1 (tot l q) c1 3 1 (catN l (fun i k => [.int .i64 (v i k)]) q)]) (fun q A1 c1 => q ≤ m) (fun q A1 c1 => m - q) 0 _ _ (by repeat (first | exact trivial | refine ⟨rfl, ?_⟩ | refine ⟨trivial, ?_⟩)) ?_ ?_ ?_
    · exact (by repeat (first | exact KSub.nil | refine KSub.cons (by repeat (first | exact Pick.hd | apply Pick.tl)) ?_))
    · exact Nat.zero_le _
    rintro q A1 c1 hq Z1 hZ1
    refine TW.seq fun Y14 hY14 => ?_
    refine TW.region ?_
    refine TL.p Pu.lt ?_
    refine TL.nil ?_
    refine TQ.thenN (hY14 _ _ ?_)
    refine TW.seq fun Y15 hY15 => ?_
    refine TW.cond rfl (fun hc2 => ?_) (fun hc2 => ?_)
    · try simp only [decide_eq_true_eq, decide_eq_false_iff_not, Bool.not_eq_true', Bool.not_eq_false', Bool.and_eq_true, Bool.or_eq_true, Bool.and_eq_false_iff, Bool.or_eq_false_iff, Int.not_lt, Int.not_le] at hc2
      have hqm : q < m := by omega
      have h1 := tot_mono (l := l) (show q + 1 ≤ m by omega)
      simp only [tot] at h1
      have hIq := hI q hqm
      refine TW.skip ?_
      refine TQ.thenN (hY15 _ _ ?_)
      refine TW.seq fun Y16 hY16 => ?_
      refine TW.block ?_
      refine TW.seq fun Y17 hY17 => ?_
      refine TW.region ?_
      refine TL.p (Pu.el ty_et91) ?_
      refine TL.p (Pu.ld ty_sc24) ?_
      refine TL.p Pu.as ?_
      refine TL.nil ?_
      refine TQ.thenN (hY17 _ _ ?_)
      refine TW.region ?_
      refine TL.p Pu.mv ?_
      refine TL.p Pu.mv ?_
      first | refine TL.a0 ty_et24 ?_ | refine TL.ap ty_et24 ?_
      intro A1 c1
      refine TL.p Pu.as ?_
      refine TL.nil ?_
      refine TQ.blkN ?_
      refine TQ.thenN (hY16 _ _ ?_)
      refine TW.region ?_
      refine TL.p Pu.ad ?_
      refine TL.p Pu.mv ?_
      refine TL.nil ?_
      refine TQ.thenN (hZ1 (q + 1) _ _ _ _ ?_ ?_ (by repeat (first | exact trivial | refine ⟨rfl, ?_⟩ | refine ⟨trivial, ?_⟩)) ?_)
      · exact (by omega)
      · exact (by first | omega | (simp only []; omega) | (simp; omega))
      · exact (by repeat (first | exact KSub.nil | refine KSub.cons (by repeat (first | exact Pick.hd | apply Pick.tl)) ?_))
    · try simp only [decide_eq_true_eq, decide_eq_false_iff_not, Bool.not_eq_true', Bool.not_eq_false', Bool.and_eq_true, Bool.or_eq_true, Bool.and_eq_false_iff, Bool.or_eq_false_iff, Int.not_lt, Int.not_le] at hc2
      obtain rfl : q = m := by omega
      refine TW.exit ?_
      refine TQ.thenX ?_
      refine TQ.thenX ?_
      refine TQ.blkX ?_
      refine TQ.thenN (hY12 _ _ ?_)
      refine TW.seq fun Y18 hY18 => ?_
      refine TW.region ?_
      refine TL.p Pu.mv ?_
      refine TL.p Pu.as ?_
      refine TL.nil ?_
      refine TQ.thenN (hY18 _ _ ?_)
      refine TW.ret ?_
      refine TQ.ret Tryz.results63 rfl ((.tmp rfl .nil)) ?_
      exact fun w hw => ⟨(A1, c1), rfl, hw⟩
end Go.Proofs.YtljhdcclajikiaaGreatDoor
namespace Go.Proofs.YtljhdcclajikiaaGreatDoor
set_option linter.all false
set_option linter.unusedVariables false
set_option linter.unusedSimpArgs false
open Go.RowKit
def tieL (a : Nat → Option Addr) (l c : Nat → Nat) : List Value := [.slice (a 0) (l 0) (c 0), .slice (a 1) (l 1) (c 1), .slice (a 2) (l 2) (c 2)]
theorem need_any (b : Bool) (e : Int) (w : World) (he : e ≠ 0) :
    Calls Tryz.prog 40 #[.bool b, .int .i64 e] w (Try w errs (if b then 0 else e) (.tuple #[])) := by
  refine K_enter (S := []) (K := []) Tryz.func40 rfl Tryz.ntmps40 rfl (Sat.start _) ?_
  refine TW.seq fun Y1 hY1 => ?_
  refine TW.region ?_
  refine TL.p Pu.mv ?_
  refine TL.p Pu.no ?_
  refine TL.nil ?_
  refine TQ.thenN (hY1 _ _ ?_)
  refine TW.cond rfl (fun hc0 => ?_) (fun hc0 => ?_)
  · try simp only [decide_eq_true_eq, decide_eq_false_iff_not, Bool.not_eq_true', Bool.not_eq_false', Bool.and_eq_true, Bool.or_eq_true, Bool.and_eq_false_iff, Bool.or_eq_false_iff, Int.not_lt, Int.not_le] at hc0
    have hb : b = false := by simpa using hc0
    refine TW.region ?_
    refine TL.p Pu.mv ?_
    refine TL.p Pu.fc ?_
    refine TL.pn rfl (by intro w; first | (go_simp; done) | (go_simp; rfl)) ?_
    refine TQ.pan rfl ?_
    exact fun w hw => by subst hb; exact Try.no (L := []) (by simp [he]) hw
  · try simp only [decide_eq_true_eq, decide_eq_false_iff_not, Bool.not_eq_true', Bool.not_eq_false', Bool.and_eq_true, Bool.or_eq_true, Bool.and_eq_false_iff, Bool.or_eq_false_iff, Int.not_lt, Int.not_le] at hc0
    refine TW.skip ?_
    refine TQ.end Tryz.results40 rfl (.nil) ?_
    exact fun w hw => by
      have hb : b = true := by simpa using hc0
      subst hb
      exact Try.ok (L := []) rfl hw
theorem all_any {a : Nat → Option Addr} {l c : Nat → Nat} {v : Nat → Nat → Int} {w : World} (ht : tot l 3 ≤ 1000000000) (hI : ∀ i, i < 3 → RdR w 1 (a i) (l i) (fun k => [.int .i64 (v i k)])) :
    CallsK Tryz.prog 44 #[.agg (tieL a l c).toArray] [] w (Option Addr × Nat) (fun x => .slice x.1 (tot l 3) x.2) (fun x => [.own x.1 (tot l 3) x.2 3 1 (catN l (fun i k => [.int .i64 (v i k)]) 3)]) := by
  refine K_enter (S := []) (K := []) Tryz.func44 rfl Tryz.ntmps44 rfl (Sat.start _) ?_
  refine TW.seq fun Y1 hY1 => ?_
  refine TW.region ?_
  refine TL.m Mk.bx ?_
  intro b1
  refine TL.p Pu.as ?_
  refine TL.nil ?_
  refine TQ.thenN (hY1 _ _ ?_)
  refine TW.seq fun Y2 hY2 => ?_
  refine TW.region ?_
  refine TL.p (by first | exact Pu.fb ty_fa34_0 | exact Pu.fe ty_fa34_0) ?_
  refine TL.p (Pu.ld ty_sc24) ?_
  refine TL.p (by first | exact Pu.fb ty_fa34_1 | exact Pu.fe ty_fa34_1) ?_
  refine TL.p (Pu.ld ty_sc24) ?_
  refine TL.p (by first | exact Pu.fb ty_fa34_2 | exact Pu.fe ty_fa34_2) ?_
  refine TL.p (Pu.ld ty_sc24) ?_
  refine TL.m Mk.bl ?_
  intro b2
  refine TL.call (M := []) rfl (enters Tryz.func63 rfl rfl) (List.Perm.refl _) rfl (fun w hw => by
      have hB : Blk w b2 _ (tieL a l c).toArray := hw.holds _ (List.mem_cons_self ..)
      exact concat_any (a := a) (l := l) (c := c) (v := v) (by decide) ht (RdR.blk (n := 3) (cs := tieL a l c) hB rfl (fun i _ => rfl)) (fun i hi => (hI i hi).sat hw Apart.nil)) ?_
  intro x
  refine TL.p Pu.as ?_
  refine TL.nil ?_
  refine TQ.thenN (hY2 _ _ ?_)
  refine TW.ret ?_
  refine TQ.ret Tryz.results44 rfl ((.tmp rfl .nil)) ?_
  exact fun w hw => ⟨x, rfl, hw.sub (KSub.cons Pick.hd KSub.nil)⟩
theorem lists_any (a : Nat → Option Addr) (l c : Nat → Nat) (w : World) :
    Calls Tryz.prog 56 #[.agg (tieL a l c).toArray] w (Ret w (.agg (tieL a l c).toArray)) := by
  refine K_enter (S := []) (K := []) Tryz.func56 rfl Tryz.ntmps56 rfl (Sat.start _) ?_
  refine TW.seq fun Y1 hY1 => ?_
  refine TW.region ?_
  refine TL.m Mk.bx ?_
  intro b1
  refine TL.m (Mk.al ty_zr35) ?_
  intro b2
  refine TL.nil ?_
  refine TQ.thenN (hY1 _ _ ?_)
  refine TW.seq fun Y2 hY2 => ?_
  refine TW.region ?_
  refine TL.p (by first | exact Pu.fb ty_fa34_0 | exact Pu.fe ty_fa34_0) ?_
  refine TL.p (Pu.ld ty_sc24) ?_
  refine TL.p (by first | exact Pu.fb ty_fa34_1 | exact Pu.fe ty_fa34_1) ?_
  refine TL.p (Pu.ld ty_sc24) ?_
  refine TL.p (by first | exact Pu.fb ty_fa34_2 | exact Pu.fe ty_fa34_2) ?_
  refine TL.p (Pu.ld ty_sc24) ?_
  refine TL.p Pu.bd ?_
  first | refine TL.st ty_sz35 ?_ | refine TL.se ty_sz35 ?_
  refine TL.nil ?_
  refine TQ.thenN (hY2 _ _ ?_)
  refine TW.ret ?_
  refine TQ.ret Tryz.results56 rfl ((RV.cs ty_ag35 .nil)) ?_
  exact fun w hw => Ret.of hw
def lastV (v : Nat → Int) : Nat → Int
  | 0 => -1
  | k + 1 => v k
def riseP (v : Nat → Int) (N : Int) (k : Nat) : Bool := inB5 (lastV v k + 1) (N - 1) (v k)
theorem rise_lo {v : Nat → Int} {N : Int} (h3 : 0 ≤ N) : ∀ k, (∀ j, j < k → riseP v N j = true) → -1 ≤ lastV v k ∧ lastV v k ≤ N - 1
  | 0, _ => by simp only [lastV]; omega
  | k + 1, h => by
    have h1 := rise_lo h3 k fun j hj => h j (by omega)
    have h2 := h k (by omega)
    simp only [riseP, inB5, Bool.and_eq_true, decide_eq_true_eq] at h2
    simp only [lastV]
    omega
theorem rising1_any (x last N : Int) (bl bn : Nat) (w : World) (hM : Sat [bl] w [.blk bl 3 [.int .i64 last]] w) (hn : OldB w bn [.int .i64 N]) (hne : bn ≠ bl) (h1 : -1 ≤ last) (h2 : last ≤ 1000000000) (h3 : 0 ≤ N) (h4 : N ≤ 1000000000000) :
    CallsK Tryz.prog 87 #[.int .i64 x, .pointer (some ⟨bl, 0, none⟩), .pointer (some ⟨bn, 0, none⟩)] [.blk bl 3 [.int .i64 last]] w Unit (fun _ => .bool (inB5 (last + 1) (N - 1) x)) (fun _ => [.blk bl 3 [.int .i64 x]]) := by
  have hAp : Apart [bl] (some ⟨bn, 0, none⟩) := fun q hq => by cases hq; simpa using hne
  refine K_enter (args := [.int .i64 x, .pointer (some ⟨bl, 0, none⟩), .pointer (some ⟨bn, 0, none⟩)]) (S := [bl]) (K := [.blk bl 3 [.int .i64 last]]) Tryz.func87 rfl Tryz.ntmps87 rfl hM ?_
  refine TW.seq fun Y1 hY1 => ?_
  refine TW.region ?_
  refine TL.p Pu.as ?_
  refine TL.nil ?_
  refine TQ.thenN (hY1 _ _ ?_)
  refine TW.seq fun Y2 hY2 => ?_
  refine TW.region ?_
  refine TL.p (by first | exact (Pu.ld ty_sc3) | exact (Pu.ldo ty_sc3)) ?_
  refine TL.p Pu.ad ?_
  refine TL.p (by first | exact (Pu.ld ty_sc3) | exact (Pu.ldo ty_sc3)) ?_
  refine TL.p Pu.sb ?_
  refine TL.p Pu.mv ?_
  refine TL.m Mk.bl ?_
  intro b1
  refine TL.cr rfl (enters Tryz.func41 rfl rfl) (fun w hw => by
      exact inOne_any _ _ _ (hw.holds _ (List.mem_cons_self ..))) ?_
  refine TL.p Pu.as ?_
  refine TL.nil ?_
  refine TQ.thenN (hY2 _ _ ?_)
  refine TW.seq fun Y3 hY3 => ?_
  refine TW.region ?_
  refine TL.p Pu.mv ?_
  first | refine TL.st ty_sz3 ?_ | refine TL.se ty_sz3 ?_
  refine TL.nil ?_
  refine TQ.thenN (hY3 _ _ ?_)
  refine TW.seq fun Y4 hY4 => ?_
  refine TW.region ?_
  refine TL.p Pu.mv ?_
  refine TL.p Pu.as ?_
  refine TL.nil ?_
  refine TQ.thenN (hY4 _ _ ?_)
  refine TW.ret ?_
  refine TQ.ret Tryz.results87 rfl ((.tmp rfl .nil)) ?_
  exact fun w hw => ⟨(), rfl, hw.sub (KSub.cons Pick.hd KSub.nil)⟩
theorem rising_any {A : Option Addr} {n cp : Nat} {v : Nat → Int} {N : Int} {w : World} (hn : n ≤ 9223372036854775807) (hR : RdR w 1 A n (fun k => [.int .i64 (v k)])) (h3 : 0 ≤ N) (h4 : N ≤ 1000000000) :
    Calls Tryz.prog 57 #[.slice A n cp, .int .i64 N] w (Ret w (.bool (allB n (riseP v N)))) := by
  refine K_enter (S := []) (K := []) Tryz.func57 rfl Tryz.ntmps57 rfl (Sat.start _) ?_
  refine TW.seq fun Y1 hY1 => ?_
  refine TW.region ?_
  refine TL.m Mk.bx ?_
  intro b1
  refine TL.p Pu.as ?_
  refine TL.nil ?_
  refine TQ.thenN (hY1 _ _ ?_)
  refine TW.seq fun Y2 hY2 => ?_
  refine TW.region ?_
  refine TL.m (Mk.al ty_zr3) ?_
  intro b2
  first | refine TL.st ty_sz3 ?_ | refine TL.se ty_sz3 ?_
  refine TL.nil ?_
  refine TQ.thenN (hY2 _ _ ?_)
  refine TW.seq fun Y3 hY3 => ?_
  refine TW.region ?_
  refine TL.p Pu.mv ?_
  refine TL.p Pu.fn ?_
  refine TL.call rfl (enters Tryz.func86 rfl rfl) (List.Perm.refl _) rfl (fun w hw => by
      have hw2 : Sat [] _ [.blk b2 3 [.int .i64 (-1)]] w := hw.sub (KSub.cons Pick.hd KSub.nil)
      have hB : Blk w b1 3 #[.int .i64 N] := hw.holds (.blk b1 3 [.int .i64 N]) (by simp)
      have hne : b1 ≠ b2 := fun e => by
        have := hw.nd
        simp [feet, Fact.foot, e] at this
      refine everyInt_st (p := riseP v N) (M := fun k => [.blk b2 3 [.int .i64 (lastV v k)]]) (fs := []) (cs := [.pointer (some ⟨b2, 0, none⟩), .pointer (some ⟨b1, 0, none⟩)]) (enters Tryz.func87 rfl rfl) hn (hR.sat hw Apart.nil) (hR.apart fun q hq => (hw2.ge q hq).resolve_left (by simp)) hw2.self (fun _ => rfl) (fun k hk hp w' hw' => ?_)
      · have hlo := rise_lo (N := N) h3 k hp
        refine rising1_any _ _ _ b2 b1 w' hw'.self ((OldB.of_blk (cs := [_]) hB).sat hw' (by simp [feet, Fact.foot, hne])) hne (by omega) (by omega) h3 (by omega)) ?_
  intro x
  refine TL.p Pu.as ?_
  refine TL.nil ?_
  refine TQ.thenN (hY3 _ _ ?_)
  refine TW.ret ?_
  refine TQ.ret Tryz.results57 rfl ((.tmp rfl .nil)) ?_
  exact fun w hw => ⟨ret_bool (by rw [x.any]; show allB n (riseP v N) = !anyB n _; rw [not_anyB]; simp), Chg.ext hw.chg⟩
end Go.Proofs.YtljhdcclajikiaaGreatDoor
namespace Go.Proofs.YtljhdcclajikiaaGreatDoor
set_option linter.all false
set_option linter.unusedVariables false
set_option linter.unusedSimpArgs false
open Go.RowKit
theorem everyPack_any {g : FuncId} {fs cs : List Value} {A : Option Addr} {n cp : Nat} {v : Nat → Nat → Int} {p : Nat → Bool} {w : World} (hen : Enters Tryz.prog g) (hn : n ≤ 9223372036854775807)
    (hR : RdR w 11 A n (fun k => packL (v k))) (hg : ∀ k, k < n → ∀ w', Below w.heap.size w w' → Calls Tryz.prog g (fs ++ [Value.agg (packL (v k)).toArray] ++ cs).toArray w' (Ret w' (.bool (p k)))) :
    Calls Tryz.prog 55 #[.slice A n cp, .func (.func g) fs.toArray cs.toArray] w (Ret w (.bool (allB n p))) :=
  CallsK.retOf (everyPack_st (M := fun _ => []) hen hn hR (fun _ => Apart.nil) (Sat.start w) (fun _ => rfl) fun k hk _ w' hw' => CallsK.ret (hg k hk w' (Chg.ext hw'.chg))) fun x => by
    rw [x.any]
    show Value.bool (!anyB n fun k => !p k) = _
    rw [not_anyB]
    simp
def lst (l : Nat → Nat) (v : Nat → Nat → Int) (j : Nat) : List Int := (List.range (l j)).map (v j)
def lsts (l : Nat → Nat) (v : Nat → Nat → Int) : Nat → List Int
  | 0 => []
  | j + 1 => lsts l v j ++ lst l v j
def held (l : Nat → Nat → Nat) (v : Nat → Nat → Nat → Int) : Nat → List Int
  | 0 => []
  | i + 1 => held l v i ++ lsts (l i) (v i) 3
theorem lsts_length (l : Nat → Nat) (v : Nat → Nat → Int) : ∀ j, (lsts l v j).length = tot l j
  | 0 => rfl
  | j + 1 => by simp [lsts, tot, lst, lsts_length l v j]
def markAll (xs : List Int) : List (Int × Value) := xs.foldl (fun m x => mput x (.bool true) m) []
theorem markAll_snoc (xs : List Int) (x : Int) : markAll (xs ++ [x]) = mput x (.bool true) (markAll xs) := by simp [markAll]
def tieOk (np : Nat) (l : Nat → Nat) (v : Nat → Nat → Int) : Bool := allB 3 (fun j => allB (l j) (riseP (v j) np)) && decide (tot l 3 ≤ 10)
def packsOk (np : Nat) (pk : Nat → Nat → Int) : Bool := decide ((np : Int) ≤ 30) && allB np fun k => packOk (pk k)
def tiesOk (np m : Nat) (l : Nat → Nat → Nat) (v : Nat → Nat → Nat → Int) : Bool := allB m (fun i => tieOk np (l i) (v i)) && (decide ((m : Int) ≤ 8) && decide (((markAll (held l v m)).length : Int) = ((held l v m).length : Int)))
def checkV (np : Nat) (pk : Nat → Nat → Int) (m : Nat) (l : Nat → Nat → Nat) (v : Nat → Nat → Nat → Int) : Int := if packsOk np pk then (if tiesOk np m l v then 0 else 51) else 50
theorem Try.bad {w w' : World} {code code' : Int} {v : Value} {S : List Nat} {L : List Fact} (e : code' ≠ 0) (h : code = code') (hS : S = []) (hs : Sat S w L w') : Try w errs code v (.panicked (errs code')) w' := by
  subst h hS
  exact Try.no e hs
theorem need_no {b : Bool} {e : Int} (h : (if b then (0 : Int) else e) ≠ 0) : b = false ∧ (if b then (0 : Int) else e) = e := by
  cases b with
  | true => exact absurd rfl h
  | false => exact ⟨rfl, rfl⟩
theorem need_yes {b : Bool} {e : Int} (he : e ≠ 0) (h : (if b then (0 : Int) else e) = 0) : b = true := by
  cases b with
  | true => rfl
  | false => exact absurd h he
section
variable {np m i j : Nat} {pk : Nat → Nat → Int} {l : Nat → Nat → Nat} {v : Nat → Nat → Nat → Int} {w w' : World} {L : List Fact}
theorem check_p1 (h : (if (decide ((np : Int) ≤ 30) && allB np fun k => packOk (pk k)) then (0 : Int) else 50) ≠ 0) (hw : Sat [] w L w') : Try w errs (checkV np pk m l v) (.tuple #[]) (.panicked (errs (if (decide ((np : Int) ≤ 30) && allB np fun k => packOk (pk k)) then (0 : Int) else 50))) w' := by
  obtain ⟨h1, h2⟩ := need_no h
  have h3 : packsOk np pk = false := h1
  exact Try.bad h (by unfold checkV; rw [h2, h3]; rfl) rfl hw
theorem check_p {b : Bool} (hp : packsOk np pk = true) (h : (if b then (0 : Int) else 51) ≠ 0) (ht : b = false → tiesOk np m l v = false) (hw : Sat [] w L w') : Try w errs (checkV np pk m l v) (.tuple #[]) (.panicked (errs (if b then (0 : Int) else 51))) w' := by
  obtain ⟨h1, h2⟩ := need_no h
  exact Try.bad h (by unfold checkV; rw [h2, hp, ht h1]; rfl) rfl hw
theorem ties_no (hi : i < m) (h : tieOk np (l i) (v i) = false) : tiesOk np m l v = false := by
  cases hb : allB m (fun i => tieOk np (l i) (v i)) with
  | false => unfold tiesOk; rw [hb]; rfl
  | true =>
    have := allB_iff.1 hb i hi
    rw [h] at this
    cases this
theorem ties_no2 (hi : i < m) (hj : j < 3) (h : allB (l i j) (riseP (v i j) np) = false) : tiesOk np m l v = false := by
  refine ties_no hi ?_
  cases hb : allB 3 (fun j => allB (l i j) (riseP (v i j) np)) with
  | false => unfold tieOk; rw [hb]; rfl
  | true =>
    have := allB_iff.1 hb j hj
    rw [h] at this
    cases this
theorem ties_no3 (hi : i < m) (h : decide ((tot (l i) 3 : Int) ≤ 10) = false) : tiesOk np m l v = false := by
  refine ties_no hi ?_
  have h' : ¬ (tot (l i) 3 : Int) ≤ 10 := by simpa using h
  have h'' : decide (tot (l i) 3 ≤ 10) = false := by simp; omega
  unfold tieOk
  rw [h'', Bool.and_false]
end
set_option maxRecDepth 100000 in
theorem index_tie (a : Nat → Option Addr) (l c : Nat → Nat) (j : Nat) (hj : j < 3) (w : World) : (Instr.index 35 (.agg (tieL a l c).toArray) (.int .i64 (j : Int))).run Tryz.prog w = .ok (.slice (a j) (l j) (c j)) w := by
  have h : j = 0 ∨ j = 1 ∨ j = 2 := by omega
  rcases h with rfl | rfl | rfl
  · unfold tieL; go_simp; rfl
  · unfold tieL; go_simp; rfl
  · unfold tieL; go_simp; rfl
set_option maxRecDepth 100000 in
theorem check_any {A A2 : Option Addr} {np cp m cp2 : Nat} {pk : Nat → Nat → Int} {a : Nat → Nat → Option Addr} {l c : Nat → Nat → Nat} {v : Nat → Nat → Nat → Int} {w : World} (hG : None0 w) (hnp : np ≤ 1000000000) (hm : m ≤ 1000)
    (hR : RdR w 11 A np (fun k => packL (pk k))) (hT : RdR w 3 A2 m (fun i => tieL (a i) (l i) (c i))) (hI : ∀ i, i < m → ∀ j, j < 3 → RdR w 1 (a i j) (l i j) (fun k => [.int .i64 (v i j k)])) (hL : ∀ i, i < m → tot (l i) 3 ≤ 1000) :
    Calls Tryz.prog 29 #[.slice A np cp, .slice A2 m cp2] w (Try w errs (checkV np pk m l v) (.tuple #[])) := by
  refine K_enter (S := []) (K := []) Tryz.func29 rfl Tryz.ntmps29 rfl (Sat.start _) ?_
  refine TW.seq fun Y1 hY1 => ?_
  refine TW.region ?_
  refine TL.p Pu.mv ?_
  refine TL.p (Pu.ln Tryz.underlying22) ?_
  refine TL.p Pu.le ?_
  refine TL.p Pu.mv ?_
  refine TL.mid 7 [(18, .bool (decide ((np : Int) ≤ 30) && allB np fun k => packOk (pk k)))] ?_ (fun hM1 => ?_)
  · simp only [List.toList_toArray, List.drop_succ_cons, List.drop_zero]
    refine TL.ct rfl (enters Tryz.func40 rfl rfl) (fun w hw => by
        exact need_any _ _ _ (by decide)) (fun hp1 => ?_) (fun hp1 => ?_)
    rotate_left
    · refine TQ.thenP ?_
      refine TQ.pan rfl ?_
      first
        | exact fun w hw => check_p1 hp1 hw
        | exact fun w hw => check_p hp1 hp2 (fun h => ties_no2 him hj3 h) hw
        | exact fun w hw => check_p hp1 hp3 (fun h => ties_no3 him h) hw
        | exact fun w hw => check_p hp1 hp4 (fun h => by unfold tiesOk; rw [← hz, h, Bool.and_false]) hw
    refine TL.nil ?_
    refine TQ.thenN (hY1 _ _ ?_)
    refine TW.seq fun Y2 hY2 => ?_
    refine TW.region ?_
    refine TL.mm (kk := .i64) ?_
    intro b1
    refine TL.p Pu.as ?_
    refine TL.nil ?_
    refine TQ.thenN (hY2 _ _ ?_)
    refine TW.seq fun Y3 hY3 => ?_
    refine TW.region ?_
    refine TL.p Pu.as ?_
    refine TL.nil ?_
    refine TQ.thenN (hY3 _ _ ?_)
    refine TW.seq fun Y4 hY4 => ?_
    refine TW.seq fun Y5 hY5 => ?_
    refine TW.region ?_
    refine TL.p Pu.mv ?_
    refine TL.p (Pu.ln Tryz.underlying23) ?_
    refine TL.p Pu.mv ?_
    refine TL.nil ?_
    refine TQ.thenN (hY5 _ _ ?_)
    refine TW.block ?_
    have hp1 : packsOk np pk = true := by
      exact need_yes (by decide) hp1
    have hnp30 : np ≤ 30 := by
      simp only [packsOk, Bool.and_eq_true, decide_eq_true_eq] at hp1
      omega
    refine TW.loop2 (fun (i : Nat) (z : Int) => [(23, .int .i64 (i : Int)), (22, .int .i64 (m : Int)), (21, .slice A2 m cp2), (0, .slice A np cp), (1, .slice A2 m cp2), (4, .map (some b1)), (5, .int .i64 z)]) (fun i z => [.obj b1 (mapO .i64 (markAll (held l v i)))]) (fun i z => i ≤ m ∧ z = ((held l v i).length : Int) ∧ z ≤ 1000 * i ∧ ∀ i', i' < i → tieOk np (l i') (v i') = true) (fun i z => m - i) 0 _ (by repeat (first | exact trivial | refine ⟨rfl, ?_⟩ | refine ⟨trivial, ?_⟩)) ?_ ?_ ?_
    · exact (by repeat (first | exact KSub.nil | refine KSub.cons (by repeat (first | exact Pick.hd | apply Pick.tl)) ?_))
    · exact ⟨by omega, rfl, by decide, fun i' h => by omega⟩
    rintro i z ⟨hi, hz, hzb, hoks⟩ Z0 hZ0
    refine TW.seq fun Y6 hY6 => ?_
    refine TW.region ?_
    refine TL.p Pu.lt ?_
    refine TL.nil ?_
    refine TQ.thenN (hY6 _ _ ?_)
    refine TW.seq fun Y7 hY7 => ?_
    refine TW.cond rfl (fun hc0 => ?_) (fun hc0 => ?_)
    · try simp only [decide_eq_true_eq, decide_eq_false_iff_not, Bool.not_eq_true', Bool.not_eq_false', Bool.and_eq_true, Bool.or_eq_true, Bool.and_eq_false_iff, Bool.or_eq_false_iff, Int.not_lt, Int.not_le] at hc0
      have him : i < m := by omega
      have hLi := hL i him
      have hIi := hI i him
      refine TW.skip ?_
      refine TQ.thenN (hY7 _ _ ?_)
      refine TW.seq fun Y8 hY8 => ?_
      refine TW.block ?_
      refine TW.seq fun Y9 hY9 => ?_
      refine TW.region ?_
      refine TL.p (Pu.el ty_et23) ?_
      refine TL.p (Pu.lds ty_ag34) ?_
      refine TL.m (Mk.al ty_zr34) ?_
      intro b2
      first | refine TL.st ty_sz34 ?_ | refine TL.se ty_sz34 ?_
      refine TL.nil ?_
      refine TQ.thenN (hY9 _ _ ?_)
      refine TW.seq fun Y10 hY10 => ?_
      refine TW.seq fun Y11 hY11 => ?_
      refine TW.region ?_
      refine TL.p (Pu.lds ty_ag34) ?_
      refine TL.cr rfl (enters Tryz.func56 rfl rfl) (fun w hw => by
          exact lists_any _ _ _ _) ?_
      refine TL.p Pu.mv ?_
      refine TL.nil ?_
      refine TQ.thenN (hY11 _ _ ?_)
      refine TW.block ?_
      refine TW.loop2 (fun (j : Nat) (y : Int) => [(29, .int .i64 (j : Int)), (28, .agg (tieL (a i) (l i) (c i)).toArray), (7, .pointer (some ⟨b2, 0, none⟩)), (23, .int .i64 (i : Int)), (22, .int .i64 (m : Int)), (21, .slice A2 m cp2), (0, .slice A np cp), (1, .slice A2 m cp2), (4, .map (some b1)), (5, .int .i64 y)]) (fun j y => [.obj b1 (mapO .i64 (markAll (held l v i ++ lsts (l i) (v i) j))), .blk b2 34 (tieL (a i) (l i) (c i))]) (fun j y => j ≤ 3 ∧ y = z + (tot (l i) j : Int) ∧ ∀ j', j' < j → allB (l i j') (riseP (v i j') np) = true) (fun j y => 3 - j) 0 _ (by repeat (first | exact trivial | refine ⟨rfl, ?_⟩ | refine ⟨trivial, ?_⟩)) ?_ ?_ ?_
      · simp only [lsts, List.append_nil]
        exact KSub.cons (by repeat (first | exact Pick.hd | apply Pick.tl)) (KSub.cons (by repeat (first | exact Pick.hd | apply Pick.tl)) KSub.nil)
      · exact ⟨by omega, by simp [tot], fun j' h => by omega⟩
      rintro j y ⟨hj, hy, hrs⟩ Z1 hZ1
      refine TW.seq fun Y12 hY12 => ?_
      refine TW.region ?_
      refine TL.p Pu.lt ?_
      refine TL.nil ?_
      refine TQ.thenN (hY12 _ _ ?_)
      refine TW.seq fun Y13 hY13 => ?_
      refine TW.cond rfl (fun hc1 => ?_) (fun hc1 => ?_)
      · try simp only [decide_eq_true_eq, decide_eq_false_iff_not, Bool.not_eq_true', Bool.not_eq_false', Bool.and_eq_true, Bool.or_eq_true, Bool.and_eq_false_iff, Bool.or_eq_false_iff, Int.not_lt, Int.not_le] at hc1
        have hj3 : j < 3 := by omega
        have hIj := hIi j hj3
        have htj : tot (l i) j + l i j ≤ tot (l i) 3 := tot_mono (l := l i) (show j + 1 ≤ 3 by omega)
        refine TW.skip ?_
        refine TQ.thenN (hY13 _ _ ?_)
        refine TW.seq fun Y14 hY14 => ?_
        refine TW.block ?_
        refine TW.seq fun Y15 hY15 => ?_
        refine TW.region ?_
        refine TL.p (Pu.ix rfl rfl (fun w => index_tie _ _ _ j (by omega) w)) ?_
        refine TL.p Pu.as ?_
        refine TL.nil ?_
        refine TQ.thenN (hY15 _ _ ?_)
        refine TW.seq fun Y16 hY16 => ?_
        refine TW.region ?_
        refine TL.p Pu.mv ?_
        refine TL.p Pu.mv ?_
        refine TL.p (Pu.ln Tryz.underlying22) ?_
        refine TL.cr rfl (enters Tryz.func57 rfl rfl) (fun w hw => by
            exact rising_any (v := v i j) (by omega) (hIj.sat hw Apart.nil) (by omega) (by omega)) ?_
        refine TL.ct rfl (enters Tryz.func40 rfl rfl) (fun w hw => by
            exact need_any _ _ _ (by decide)) (fun hp2 => ?_) (fun hp2 => ?_)
        rotate_left
        · refine TQ.thenP ?_
          refine TQ.blkP ?_
          refine TQ.thenP ?_
          refine TQ.thenP ?_
          refine TQ.blkP ?_
          refine TQ.thenP ?_
          refine TQ.blkP ?_
          refine TQ.thenP ?_
          refine TQ.thenP ?_
          refine TQ.blkP ?_
          refine TQ.thenP ?_
          refine TQ.pan rfl ?_
          first
            | exact fun w hw => check_p1 hp1 hw
            | exact fun w hw => check_p hp1 hp2 (fun h => ties_no2 him hj3 h) hw
            | exact fun w hw => check_p hp1 hp3 (fun h => ties_no3 him h) hw
            | exact fun w hw => check_p hp1 hp4 (fun h => by unfold tiesOk; rw [← hz, h, Bool.and_false]) hw
        refine TL.nil ?_
        refine TQ.thenN (hY16 _ _ ?_)
        refine TW.seq fun Y17 hY17 => ?_
        refine TW.seq fun Y18 hY18 => ?_
        refine TW.region ?_
        refine TL.p Pu.mv ?_
        refine TL.p (Pu.ln Tryz.underlying24) ?_
        refine TL.p Pu.mv ?_
        refine TL.nil ?_
        refine TQ.thenN (hY18 _ _ ?_)
        refine TW.block ?_
        have hrise : allB (l i j) (riseP (v i j) np) = true := by
          cases h : allB (l i j) (riseP (v i j) np) with
          | true => rfl
          | false => rw [h] at hp2; exact absurd hp2 (by decide)
        refine TW.loop1 (fun (k : Nat) => [(39, .int .i64 (k : Int)), (38, .int .i64 (l i j : Int)), (37, .slice (a i j) (l i j) (c i j)), (9, .slice (a i j) (l i j) (c i j)), (29, .int .i64 (j : Int)), (28, .agg (tieL (a i) (l i) (c i)).toArray), (7, .pointer (some ⟨b2, 0, none⟩)), (23, .int .i64 (i : Int)), (22, .int .i64 (m : Int)), (21, .slice A2 m cp2), (0, .slice A np cp), (1, .slice A2 m cp2), (4, .map (some b1)), (5, .int .i64 y)]) (fun k => [.obj b1 (mapO .i64 (markAll (held l v i ++ lsts (l i) (v i) j ++ (List.range k).map (v i j)))), .blk b2 34 (tieL (a i) (l i) (c i))]) (fun k => k ≤ l i j) (fun k => l i j - k) 0 (by repeat (first | exact trivial | refine ⟨rfl, ?_⟩ | refine ⟨trivial, ?_⟩)) ?_ ?_ ?_
        · simp only [List.range_zero, List.map_nil, List.append_nil]
          exact KSub.cons (by repeat (first | exact Pick.hd | apply Pick.tl)) (KSub.cons (by repeat (first | exact Pick.hd | apply Pick.tl)) KSub.nil)
        · exact Nat.zero_le _
        rintro k hk Z2 hZ2
        refine TW.seq fun Y19 hY19 => ?_
        refine TW.region ?_
        refine TL.p Pu.lt ?_
        refine TL.nil ?_
        refine TQ.thenN (hY19 _ _ ?_)
        refine TW.seq fun Y20 hY20 => ?_
        refine TW.cond rfl (fun hc2 => ?_) (fun hc2 => ?_)
        · try simp only [decide_eq_true_eq, decide_eq_false_iff_not, Bool.not_eq_true', Bool.not_eq_false', Bool.and_eq_true, Bool.or_eq_true, Bool.and_eq_false_iff, Bool.or_eq_false_iff, Int.not_lt, Int.not_le] at hc2
          refine TW.skip ?_
          refine TQ.thenN (hY20 _ _ ?_)
          refine TW.seq fun Y21 hY21 => ?_
          refine TW.block ?_
          refine TW.seq fun Y22 hY22 => ?_
          refine TW.region ?_
          refine TL.p (Pu.el ty_et24) ?_
          refine TL.p (Pu.ld ty_sc3) ?_
          refine TL.p Pu.as ?_
          refine TL.nil ?_
          refine TQ.thenN (hY22 _ _ ?_)
          refine TW.region ?_
          refine TL.p Pu.mv ?_
          refine TL.p Pu.mv ?_
          refine TL.mu ty_mp108 ?_
          refine TL.nil ?_
          refine TQ.blkN ?_
          refine TQ.thenN (hY21 _ _ ?_)
          refine TW.region ?_
          refine TL.p Pu.ad ?_
          refine TL.p Pu.mv ?_
          refine TL.nil ?_
          refine TQ.thenN (hZ2 (k + 1) _ _ ?_ ?_ (by repeat (first | exact trivial | refine ⟨rfl, ?_⟩ | refine ⟨trivial, ?_⟩)) ?_)
          · exact (by omega)
          · exact (by first | omega | (simp only []; omega) | (simp; omega))
          · rw [List.range_succ, List.map_append, ← List.append_assoc, show [k].map (v i j) = [v i j k] from rfl, markAll_snoc]
            exact KSub.cons (by repeat (first | exact Pick.hd | apply Pick.tl)) (KSub.cons (by repeat (first | exact Pick.hd | apply Pick.tl)) KSub.nil)
        · try simp only [decide_eq_true_eq, decide_eq_false_iff_not, Bool.not_eq_true', Bool.not_eq_false', Bool.and_eq_true, Bool.or_eq_true, Bool.and_eq_false_iff, Bool.or_eq_false_iff, Int.not_lt, Int.not_le] at hc2
          have hke : k = l i j := by omega
          refine TW.exit ?_
          refine TQ.thenX ?_
          refine TQ.thenX ?_
          refine TQ.blkX ?_
          refine TQ.thenN (hY17 _ _ ?_)
          refine TW.region ?_
          refine TL.p Pu.mv ?_
          refine TL.p Pu.mv ?_
          refine TL.p (Pu.ln Tryz.underlying24) ?_
          refine TL.p Pu.ad ?_
          refine TL.p Pu.as ?_
          refine TL.nil ?_
          refine TQ.blkN ?_
          refine TQ.thenN (hY14 _ _ ?_)
          refine TW.region ?_
          refine TL.p Pu.ad ?_
          refine TL.p Pu.mv ?_
          refine TL.nil ?_
          subst hke
          refine TQ.thenN (hZ1 (j + 1) _ _ _ ?_ ?_ (by repeat (first | exact trivial | refine ⟨rfl, ?_⟩ | refine ⟨trivial, ?_⟩)) ?_)
          · refine ⟨by omega, by simp only [tot]; omega, fun j' h => ?_⟩
            by_cases he : j' = j
            · subst he; exact hrise
            · exact hrs j' (by omega)
          · exact (by first | omega | (simp only []; omega) | (simp; omega))
          · rw [lsts, ← List.append_assoc]
            exact KSub.cons (by repeat (first | exact Pick.hd | apply Pick.tl)) (KSub.cons (by repeat (first | exact Pick.hd | apply Pick.tl)) KSub.nil)
      · try simp only [decide_eq_true_eq, decide_eq_false_iff_not, Bool.not_eq_true', Bool.not_eq_false', Bool.and_eq_true, Bool.or_eq_true, Bool.and_eq_false_iff, Bool.or_eq_false_iff, Int.not_lt, Int.not_le] at hc1
        obtain rfl : j = 3 := by omega
        refine TW.exit ?_
        refine TQ.thenX ?_
        refine TQ.thenX ?_
        refine TQ.blkX ?_
        refine TQ.thenN (hY10 _ _ ?_)
        refine TW.region ?_
        refine TL.p (Pu.lds ty_ag34) ?_
        refine TL.call (M := []) rfl (enters Tryz.func44 rfl rfl) (List.Perm.refl _) rfl (fun w hw => by
            exact all_any (v := v i) (by omega) (fun j hj => (hIi j hj).sat hw Apart.nil)) ?_
        rintro ⟨Aq, cq⟩
        refine TL.p (Pu.ln Tryz.underlying24) ?_
        refine TL.p Pu.le ?_
        refine TL.ct rfl (enters Tryz.func40 rfl rfl) (fun w hw => by
            exact need_any _ _ _ (by decide)) (fun hp3 => ?_) (fun hp3 => ?_)
        rotate_left
        · refine TQ.blkP ?_
          refine TQ.thenP ?_
          refine TQ.thenP ?_
          refine TQ.blkP ?_
          refine TQ.thenP ?_
          refine TQ.pan rfl ?_
          first
            | exact fun w hw => check_p1 hp1 hw
            | exact fun w hw => check_p hp1 hp2 (fun h => ties_no2 him hj3 h) hw
            | exact fun w hw => check_p hp1 hp3 (fun h => ties_no3 him h) hw
            | exact fun w hw => check_p hp1 hp4 (fun h => by unfold tiesOk; rw [← hz, h, Bool.and_false]) hw
        refine TL.nil ?_
        refine TQ.blkN ?_
        refine TQ.thenN (hY8 _ _ ?_)
        refine TW.region ?_
        refine TL.p Pu.ad ?_
        refine TL.p Pu.mv ?_
        refine TL.nil ?_
        have ht10 : tot (l i) 3 ≤ 10 := by
          by_cases h : tot (l i) 3 ≤ 10
          · exact h
          · exfalso; simp [show ¬ ((tot (l i) 3 : Int) ≤ 10) by omega] at hp3
        refine TQ.thenN (hZ0 (i + 1) _ _ _ ?_ ?_ (by repeat (first | exact trivial | refine ⟨rfl, ?_⟩ | refine ⟨trivial, ?_⟩)) ?_)
        · refine ⟨by omega, ?_, by omega, fun i' h => ?_⟩
          · rw [held, List.length_append, lsts_length]; omega
          · by_cases he : i' = i
            · subst he
              simp only [tieOk, Bool.and_eq_true, decide_eq_true_eq]
              exact ⟨allB_iff.2 hrs, ht10⟩
            · exact hoks i' (by omega)
        · exact (by first | omega | (simp only []; omega) | (simp; omega))
        · rw [held]
          exact KSub.cons (by repeat (first | exact Pick.hd | apply Pick.tl)) KSub.nil
    · try simp only [decide_eq_true_eq, decide_eq_false_iff_not, Bool.not_eq_true', Bool.not_eq_false', Bool.and_eq_true, Bool.or_eq_true, Bool.and_eq_false_iff, Bool.or_eq_false_iff, Int.not_lt, Int.not_le] at hc0
      obtain rfl : m = i := by omega
      refine TW.exit ?_
      refine TQ.thenX ?_
      refine TQ.thenX ?_
      refine TQ.blkX ?_
      refine TQ.thenN (hY4 _ _ ?_)
      refine TW.region ?_
      refine TL.p Pu.mv ?_
      refine TL.p (Pu.ln Tryz.underlying23) ?_
      refine TL.p Pu.le ?_
      refine TL.p Pu.mv ?_
      refine TL.mid 9 [(65, .bool (decide ((m : Int) ≤ 8) && decide (((markAll (held l v m)).length : Int) = z)))] ?_ (fun hM2 => ?_)
      · simp only [List.toList_toArray, List.drop_succ_cons, List.drop_zero]
        refine TL.ct rfl (enters Tryz.func40 rfl rfl) (fun w hw => by
            exact need_any _ _ _ (by decide)) (fun hp4 => ?_) (fun hp4 => ?_)
        rotate_left
        · refine TQ.pan rfl ?_
          first
            | exact fun w hw => check_p1 hp1 hw
            | exact fun w hw => check_p hp1 hp2 (fun h => ties_no2 him hj3 h) hw
            | exact fun w hw => check_p hp1 hp3 (fun h => ties_no3 him h) hw
            | exact fun w hw => check_p hp1 hp4 (fun h => by unfold tiesOk; rw [← hz, h, Bool.and_false]) hw
        refine TL.nil ?_
        refine TQ.end Tryz.results29 rfl (.nil) ?_
        exact fun w hw => Try.ok (by
          have h4 := need_yes (by decide) hp4
          rw [hz] at h4
          unfold checkV
          rw [hp1, if_pos rfl]
          unfold tiesOk
          rw [h4, allB_iff.2 hoks]
          rfl) hw
      refine TL.guard (t := 60) rfl (fun hg1 => ?_) (fun hg1 => ?_)
      · refine TL.gd Pu.mv ?_
        refine TL.gd (Pu.ml' ty_mp108) ?_
        refine TL.gd Pu.mv ?_
        refine TL.gd Pu.eq ?_
        refine TL.p Pu.kt ?_
        exact TL.sub (by repeat (first | exact trivial | refine ⟨rfl, ?_⟩ | refine ⟨trivial, ?_⟩ | refine ⟨(by show some (Value.bool _) = some (Value.bool _); simp [hg1]), ?_⟩)) (by repeat (first | exact KSub.nil | refine KSub.cons (by repeat (first | exact Pick.hd | apply Pick.tl)) ?_)) hM2
      · refine TL.gs ?_
        refine TL.gs ?_
        refine TL.gs ?_
        refine TL.gs ?_
        refine TL.p Pu.kf ?_
        exact TL.sub (by repeat (first | exact trivial | refine ⟨rfl, ?_⟩ | refine ⟨trivial, ?_⟩ | refine ⟨(by show some (Value.bool _) = some (Value.bool _); simp [hg1]), ?_⟩)) (by repeat (first | exact KSub.nil | refine KSub.cons (by repeat (first | exact Pick.hd | apply Pick.tl)) ?_)) hM2
  refine TL.guard (t := 15) rfl (fun hg2 => ?_) (fun hg2 => ?_)
  · refine TL.gd Pu.mv ?_
    refine TL.cr rfl (enters Tryz.func55 rfl rfl) (fun w hw => by
        exact everyPack_any (fs := []) (cs := []) (p := fun k => packOk (pk k)) (enters Tryz.func47 rfl rfl) (by omega) (hR.sat hw Apart.nil) fun k hk w' hb => by simpa using valid_any (pk k) w' ((hG.sat hw (by simp)).ext hb)) ?_
    refine TL.p Pu.kt ?_
    exact TL.sub (by repeat (first | exact trivial | refine ⟨rfl, ?_⟩ | refine ⟨trivial, ?_⟩ | refine ⟨(by show some (Value.bool _) = some (Value.bool _); simp [hg2]), ?_⟩)) (by repeat (first | exact KSub.nil | refine KSub.cons (by repeat (first | exact Pick.hd | apply Pick.tl)) ?_)) hM1
  · refine TL.gs ?_
    refine TL.gs ?_
    refine TL.p Pu.kf ?_
    exact TL.sub (by repeat (first | exact trivial | refine ⟨rfl, ?_⟩ | refine ⟨trivial, ?_⟩ | refine ⟨(by show some (Value.bool _) = some (Value.bool _); simp [hg2]), ?_⟩)) (by repeat (first | exact KSub.nil | refine KSub.cons (by repeat (first | exact Pick.hd | apply Pick.tl)) ?_)) hM1
end Go.Proofs.YtljhdcclajikiaaGreatDoor
namespace Go.Proofs.YtljhdcclajikiaaGreatDoor
set_option linter.all false
set_option linter.unusedVariables false
set_option linter.unusedSimpArgs false
open Go.RowKit
structure Lay (w : World) (A A2 : Option Addr) (np m : Nat) (pk : Nat → Nat → Int) (a : Nat → Nat → Option Addr) (l c : Nat → Nat → Nat) (v : Nat → Nat → Nat → Int) : Prop where
  hG : None0 w
  hnp : np ≤ 1000000000
  hm : m ≤ 1000
  hR : RdR w 11 A np (fun k => packL (pk k))
  hT : RdR w 3 A2 m (fun i => tieL (a i) (l i) (c i))
  hI : ∀ i, i < m → ∀ j, j < 3 → RdR w 1 (a i j) (l i j) (fun k => [.int .i64 (v i j k)])
  hL : ∀ i, i < m → tot (l i) 3 ≤ 1000
section
variable {w w' : World} {A A2 : Option Addr} {np m : Nat} {pk : Nat → Nat → Int} {a : Nat → Nat → Option Addr} {l c : Nat → Nat → Nat} {v : Nat → Nat → Nat → Int}
theorem Lay.sat {K : List Fact} (h : Lay w A A2 np m pk a l c v) (hs : Sat [] w K w') : Lay w' A A2 np m pk a l c v :=
  ⟨h.hG.sat hs (by simp), h.hnp, h.hm, h.hR.sat hs Apart.nil, h.hT.sat hs Apart.nil, fun i hi j hj => (h.hI i hi j hj).sat hs Apart.nil, h.hL⟩
theorem Lay.ext (h : Lay w A A2 np m pk a l c v) (hb : Below w.heap.size w w') : Lay w' A A2 np m pk a l c v := h.sat (Sat.nil (Chg.of_ext hb))
theorem Lay.check {cp cp2 : Nat} (h : Lay w A A2 np m pk a l c v) : Calls Tryz.prog 29 #[.slice A np cp, .slice A2 m cp2] w (Try w errs (checkV np pk m l v) (.tuple #[])) :=
  check_any h.hG h.hnp h.hm h.hR h.hT h.hI h.hL
end
theorem within5_any (x lo hi : Int) (w : World) : Calls Tryz.prog 83 #[.int .i64 x, .int .i64 lo, .int .i64 hi] w (Ret w (.bool (inB5 lo hi x))) := refWithin_any x lo hi w
theorem refPacks_any {A : Option Addr} {np cp : Nat} {pk : Nat → Nat → Int} {w : World} (hnp : np ≤ 1000000000) (hR : RdR w 11 A np (fun k => packL (pk k))) :
    Calls Tryz.prog 25 #[.slice A np cp] w (Ret w (.bool (packsOk np pk))) := by
  refine K_enter (S := []) (K := []) Tryz.func25 rfl Tryz.ntmps25 rfl (Sat.start _) ?_
  refine TW.seq fun Y1 hY1 => ?_
  refine TW.region ?_
  refine TL.p Pu.as ?_
  refine TL.nil ?_
  refine TQ.thenN (hY1 _ _ ?_)
  refine TW.seq fun Y2 hY2 => ?_
  refine TW.seq fun Y3 hY3 => ?_
  refine TW.region ?_
  refine TL.p Pu.mv ?_
  refine TL.p (Pu.ln Tryz.underlying22) ?_
  refine TL.p Pu.gt ?_
  refine TL.nil ?_
  refine TQ.thenN (hY3 _ _ ?_)
  refine TW.cond rfl (fun hc0 => ?_) (fun hc0 => ?_)
  · try simp only [decide_eq_true_eq, decide_eq_false_iff_not, Bool.not_eq_true', Bool.not_eq_false', Bool.and_eq_true, Bool.or_eq_true, Bool.and_eq_false_iff, Bool.or_eq_false_iff, Int.not_lt, Int.not_le] at hc0
    refine TW.seq fun Y4 hY4 => ?_
    refine TW.region ?_
    refine TL.p Pu.as ?_
    refine TL.nil ?_
    refine TQ.thenN (hY4 _ _ ?_)
    refine TW.ret ?_
    refine TQ.thenR ?_
    refine TQ.ret Tryz.results25 rfl ((.tmp rfl .nil)) ?_
    exact fun w hw => ⟨ret_bool (by unfold packsOk; rw [show decide ((np : Int) ≤ 30) = false by simp; omega]; rfl), Chg.ext hw.chg⟩
  · try simp only [decide_eq_true_eq, decide_eq_false_iff_not, Bool.not_eq_true', Bool.not_eq_false', Bool.and_eq_true, Bool.or_eq_true, Bool.and_eq_false_iff, Bool.or_eq_false_iff, Int.not_lt, Int.not_le] at hc0
    refine TW.skip ?_
    refine TQ.thenN (hY2 _ _ ?_)
    refine TW.seq fun Y5 hY5 => ?_
    refine TW.seq fun Y6 hY6 => ?_
    refine TW.region ?_
    refine TL.p Pu.as ?_
    refine TL.nil ?_
    refine TQ.thenN (hY6 _ _ ?_)
    refine TW.block ?_
    refine TW.loop1 (fun (k : Nat) => [(3, .int .i64 (k : Int)), (0, .slice A np cp)]) (fun k => []) (fun k => k ≤ np ∧ ∀ j, j < k → packOk (pk j) = true) (fun k => np - k) 0 (by repeat (first | exact trivial | refine ⟨rfl, ?_⟩ | refine ⟨trivial, ?_⟩)) ?_ ?_ ?_
    · exact (by repeat (first | exact KSub.nil | refine KSub.cons (by repeat (first | exact Pick.hd | apply Pick.tl)) ?_))
    · exact ⟨by omega, fun j hj => by omega⟩
    rintro k ⟨hk, hall⟩ Z0 hZ0
    refine TW.seq fun Y7 hY7 => ?_
    refine TW.seq fun Y8 hY8 => ?_
    refine TW.region ?_
    refine TL.p Pu.mv ?_
    refine TL.p Pu.mv ?_
    refine TL.p (Pu.ln Tryz.underlying22) ?_
    refine TL.p Pu.lt ?_
    refine TL.nil ?_
    refine TQ.thenN (hY8 _ _ ?_)
    refine TW.cond rfl (fun hc1 => ?_) (fun hc1 => ?_)
    · try simp only [decide_eq_true_eq, decide_eq_false_iff_not, Bool.not_eq_true', Bool.not_eq_false', Bool.and_eq_true, Bool.or_eq_true, Bool.and_eq_false_iff, Bool.or_eq_false_iff, Int.not_lt, Int.not_le] at hc1
      refine TW.skip ?_
      refine TQ.thenN (hY7 _ _ ?_)
      refine TW.seq fun Y9 hY9 => ?_
      refine TW.block ?_
      refine TW.seq fun Y10 hY10 => ?_
      refine TW.region ?_
      refine TL.p Pu.mv ?_
      refine TL.p Pu.mv ?_
      refine TL.p (Pu.el ty_et22) ?_
      refine TL.p (Pu.lds ty_ag58) ?_
      refine TL.cr rfl (enters Tryz.func52 rfl rfl) (fun w hw => by
          exact refPack_any (pk k) _) ?_
      refine TL.p Pu.no ?_
      refine TL.nil ?_
      refine TQ.thenN (hY10 _ _ ?_)
      refine TW.cond rfl (fun hc2 => ?_) (fun hc2 => ?_)
      · try simp only [decide_eq_true_eq, decide_eq_false_iff_not, Bool.not_eq_true', Bool.not_eq_false', Bool.and_eq_true, Bool.or_eq_true, Bool.and_eq_false_iff, Bool.or_eq_false_iff, Int.not_lt, Int.not_le] at hc2
        have hbad : packOk (pk k) = false := hc2
        refine TW.seq fun Y11 hY11 => ?_
        refine TW.region ?_
        refine TL.p Pu.as ?_
        refine TL.nil ?_
        refine TQ.thenN (hY11 _ _ ?_)
        refine TW.ret ?_
        refine TQ.blkR ?_
        refine TQ.thenR ?_
        refine TQ.thenR ?_
        refine TQ.blkR ?_
        refine TQ.thenR ?_
        refine TQ.ret Tryz.results25 rfl ((.tmp rfl .nil)) ?_
        exact fun w hw => ⟨ret_bool (by
          have : allB np (fun k => packOk (pk k)) = false := by
            cases h : allB np (fun k => packOk (pk k)) with
            | false => rfl
            | true => have := allB_iff.1 h k (by omega); rw [hbad] at this; cases this
          unfold packsOk; rw [this, Bool.and_false]), Chg.ext hw.chg⟩
      · try simp only [decide_eq_true_eq, decide_eq_false_iff_not, Bool.not_eq_true', Bool.not_eq_false', Bool.and_eq_true, Bool.or_eq_true, Bool.and_eq_false_iff, Bool.or_eq_false_iff, Int.not_lt, Int.not_le] at hc2
        have hgood : packOk (pk k) = true := hc2
        refine TW.skip ?_
        refine TQ.blkN ?_
        refine TQ.thenN (hY9 _ _ ?_)
        refine TW.region ?_
        refine TL.p Pu.mv ?_
        refine TL.p Pu.ad ?_
        refine TL.p Pu.as ?_
        refine TL.nil ?_
        refine TQ.thenN (hZ0 (k + 1) _ _ ?_ ?_ (by repeat (first | exact trivial | refine ⟨rfl, ?_⟩ | refine ⟨trivial, ?_⟩)) ?_)
        · refine ⟨by omega, fun j hj => ?_⟩
          by_cases h : j = k
          · subst h; exact hgood
          · exact hall j (by omega)
        · exact (by first | omega | (simp only []; omega) | (simp; omega))
        · exact (by repeat (first | exact KSub.nil | refine KSub.cons (by repeat (first | exact Pick.hd | apply Pick.tl)) ?_))
    · try simp only [decide_eq_true_eq, decide_eq_false_iff_not, Bool.not_eq_true', Bool.not_eq_false', Bool.and_eq_true, Bool.or_eq_true, Bool.and_eq_false_iff, Bool.or_eq_false_iff, Int.not_lt, Int.not_le] at hc1
      refine TW.exit ?_
      refine TQ.thenX ?_
      refine TQ.thenX ?_
      refine TQ.blkX ?_
      refine TQ.thenN (hY5 _ _ ?_)
      refine TW.seq fun Y12 hY12 => ?_
      refine TW.region ?_
      refine TL.p Pu.as ?_
      refine TL.nil ?_
      refine TQ.thenN (hY12 _ _ ?_)
      refine TW.ret ?_
      refine TQ.ret Tryz.results25 rfl ((.tmp rfl .nil)) ?_
      exact fun w hw => ⟨ret_bool (by
        obtain rfl : k = np := by omega
        unfold packsOk; rw [allB_iff.2 hall, show decide ((k : Int) ≤ 30) = true by simp; omega]; rfl), Chg.ext hw.chg⟩
theorem tot3 (l : Nat → Nat) : tot l 3 = l 0 + l 1 + l 2 := by simp [tot]
theorem cat3 (l : Nat → Nat) (s : Nat → Nat → List Value) : catN l s 3 = catR (l 0 + l 1) (catR (l 0) (s 0) (s 1)) (s 2) := by
  have e : catR 0 (fun _ => []) (s 0) = s 0 := by funext i; simp [catR]
  simp [catN, tot, e]
theorem refList_any {a : Nat → Option Addr} {l c : Nat → Nat} {v : Nat → Nat → Int} {w : World} (ht : tot l 3 ≤ 1000000000) (hI : ∀ i, i < 3 → RdR w 1 (a i) (l i) (fun k => [.int .i64 (v i k)])) :
    CallsK Tryz.prog 13 #[.agg (tieL a l c).toArray] [] w (Option Addr × Nat) (fun x => .slice x.1 (tot l 3) x.2) (fun x => [.own x.1 (tot l 3) x.2 3 1 (catN l (fun i k => [.int .i64 (v i k)]) 3)]) := by
  rw [tot3] at ht
  have h0 := hI 0 (by omega)
  have h1 := hI 1 (by omega)
  have h2 := hI 2 (by omega)
  rw [tot3, cat3]
  refine K_enter (S := []) (K := []) Tryz.func13 rfl Tryz.ntmps13 rfl (Sat.start _) ?_
  refine TW.seq fun Y1 hY1 => ?_
  refine TW.region ?_
  refine TL.m Mk.bx ?_
  intro b1
  refine TL.p Pu.as ?_
  refine TL.nil ?_
  refine TQ.thenN (hY1 _ _ ?_)
  refine TW.seq fun Y2 hY2 => ?_
  refine TW.region ?_
  refine TL.m Mk.bl ?_
  intro b2
  refine TL.p (by first | exact Pu.fb ty_fa34_0 | exact Pu.fe ty_fa34_0) ?_
  refine TL.p (Pu.ld ty_sc24) ?_
  refine TL.subK (KSub.ofBlk (n := 0) (sz := 1) (r := fun _ => []) Pick.hd rfl (fun _ h => by omega) rfl rfl (KSub.cons Pick.hd KSub.nil)) ?_
  first | refine TL.a0 ty_et24 ?_ | refine TL.ap ty_et24 ?_
  intro A3 c3
  refine TL.p Pu.as ?_
  refine TL.nil ?_
  refine TQ.thenN (hY2 _ _ ?_)
  refine TW.seq fun Y3 hY3 => ?_
  refine TW.region ?_
  refine TL.p Pu.mv ?_
  refine TL.p (by first | exact Pu.fb ty_fa34_1 | exact Pu.fe ty_fa34_1) ?_
  refine TL.p (Pu.ld ty_sc24) ?_
  first | refine TL.a0 ty_et24 ?_ | refine TL.ap ty_et24 ?_
  intro A4 c4
  refine TL.p Pu.as ?_
  refine TL.nil ?_
  refine TQ.thenN (hY3 _ _ ?_)
  refine TW.seq fun Y4 hY4 => ?_
  refine TW.region ?_
  refine TL.p Pu.mv ?_
  refine TL.p (by first | exact Pu.fb ty_fa34_2 | exact Pu.fe ty_fa34_2) ?_
  refine TL.p (Pu.ld ty_sc24) ?_
  first | refine TL.a0 ty_et24 ?_ | refine TL.ap ty_et24 ?_
  intro A5 c5
  refine TL.p Pu.as ?_
  refine TL.nil ?_
  refine TQ.thenN (hY4 _ _ ?_)
  refine TW.ret ?_
  refine TQ.ret Tryz.results13 rfl ((.tmp rfl .nil)) ?_
  exact fun w hw => ⟨(A5, c5), rfl, hw.sub (KSub.cons Pick.hd KSub.nil)⟩
def refP (v : Nat → Int) (N : Int) (k : Nat) : Bool := inB5 0 (N - 1) (v k) && !(decide (0 < k) && decide (v k ≤ v (k - 1)))
theorem tnP (k : Nat) : ((k : Int) - 1).toNat = k - 1 := by omega
theorem rise_ref (v : Nat → Int) (N : Int) (n : Nat) : allB n (refP v N) = allB n (riseP v N) := by
  rw [Bool.eq_iff_iff, allB_iff, allB_iff]
  constructor
  · intro h k hk
    have h1 := h k hk
    simp only [refP, riseP, inB5, Bool.and_eq_true, decide_eq_true_eq, Bool.not_eq_true', Bool.and_eq_false_iff, decide_eq_false_iff_not] at h1 ⊢
    cases k with
    | zero => simp only [lastV]; omega
    | succ k => simp only [lastV, Nat.add_sub_cancel] at h1 ⊢; omega
  · intro h k hk
    have hlo : ∀ q, q < n → -1 ≤ lastV v q := fun q => by
      induction q with
      | zero => intro _; simp only [lastV]; omega
      | succ q ih =>
        intro hq
        have h1 := h q (by omega)
        have h2 := ih (by omega)
        simp only [riseP, inB5, Bool.and_eq_true, decide_eq_true_eq] at h1
        simp only [lastV]
        omega
    have h1 := h k hk
    have h2 := hlo k hk
    simp only [refP, riseP, inB5, Bool.and_eq_true, decide_eq_true_eq, Bool.not_eq_true', Bool.and_eq_false_iff, decide_eq_false_iff_not] at h1 ⊢
    cases k with
    | zero => simp only [lastV] at h1; omega
    | succ k => simp only [lastV, Nat.add_sub_cancel] at h1 h2 ⊢; omega
theorem refRising_any {A : Option Addr} {n cp : Nat} {v : Nat → Int} {N : Int} {w : World} (hn : n ≤ 1000000000) (hR : RdR w 1 A n (fun k => [.int .i64 (v k)])) (h3 : 0 ≤ N) (h4 : N ≤ 1000000000) :
    Calls Tryz.prog 53 #[.slice A n cp, .int .i64 N] w (Ret w (.bool (allB n (riseP v N)))) := by
  rw [← rise_ref]
  refine K_enter (S := []) (K := []) Tryz.func53 rfl Tryz.ntmps53 rfl (Sat.start _) ?_
  refine TW.seq fun Y1 hY1 => ?_
  refine TW.region ?_
  refine TL.p Pu.as ?_
  refine TL.nil ?_
  refine TQ.thenN (hY1 _ _ ?_)
  refine TW.seq fun Y2 hY2 => ?_
  refine TW.seq fun Y3 hY3 => ?_
  refine TW.region ?_
  refine TL.p Pu.as ?_
  refine TL.nil ?_
  refine TQ.thenN (hY3 _ _ ?_)
  refine TW.block ?_
  refine TW.loop1 (fun (k : Nat) => [(5, .int .i64 (k : Int)), (0, .slice A n cp), (1, .int .i64 N)]) (fun k => []) (fun k => k ≤ n ∧ ∀ j, j < k → refP v N j = true) (fun k => n - k) 0 (by repeat (first | exact trivial | refine ⟨rfl, ?_⟩ | refine ⟨trivial, ?_⟩)) ?_ ?_ ?_
  · exact (by repeat (first | exact KSub.nil | refine KSub.cons (by repeat (first | exact Pick.hd | apply Pick.tl)) ?_))
  · exact ⟨by omega, fun j hj => by omega⟩
  rintro k ⟨hk, hall⟩ Z0 hZ0
  refine TW.seq fun Y4 hY4 => ?_
  refine TW.seq fun Y5 hY5 => ?_
  refine TW.region ?_
  refine TL.p Pu.mv ?_
  refine TL.p Pu.mv ?_
  refine TL.p (Pu.ln Tryz.underlying24) ?_
  refine TL.p Pu.lt ?_
  refine TL.nil ?_
  refine TQ.thenN (hY5 _ _ ?_)
  refine TW.cond rfl (fun hc0 => ?_) (fun hc0 => ?_)
  · try simp only [decide_eq_true_eq, decide_eq_false_iff_not, Bool.not_eq_true', Bool.not_eq_false', Bool.and_eq_true, Bool.or_eq_true, Bool.and_eq_false_iff, Bool.or_eq_false_iff, Int.not_lt, Int.not_le] at hc0
    refine TW.skip ?_
    refine TQ.thenN (hY4 _ _ ?_)
    refine TW.seq fun Y6 hY6 => ?_
    refine TW.block ?_
    refine TW.seq fun Y7 hY7 => ?_
    refine TW.join [(35, .bool (!refP v N k))] ?_ (fun hJ1 => ?_)
    · refine TQ.thenN (hY7 _ _ ?_)
      refine TW.cond rfl (fun hc1 => ?_) (fun hc1 => ?_)
      · try simp only [decide_eq_true_eq, decide_eq_false_iff_not, Bool.not_eq_true', Bool.not_eq_false', Bool.and_eq_true, Bool.or_eq_true, Bool.and_eq_false_iff, Bool.or_eq_false_iff, Int.not_lt, Int.not_le] at hc1
        have hbad : refP v N k = false := by simpa using hc1
        refine TW.seq fun Y8 hY8 => ?_
        refine TW.region ?_
        refine TL.p Pu.as ?_
        refine TL.nil ?_
        refine TQ.thenN (hY8 _ _ ?_)
        refine TW.ret ?_
        refine TQ.blkR ?_
        refine TQ.thenR ?_
        refine TQ.thenR ?_
        refine TQ.blkR ?_
        refine TQ.thenR ?_
        refine TQ.ret Tryz.results53 rfl ((.tmp rfl .nil)) ?_
        exact fun w hw => ⟨ret_bool (by
          cases h : allB n (refP v N) with
          | false => rfl
          | true => have := allB_iff.1 h k (by omega); rw [hbad] at this; cases this), Chg.ext hw.chg⟩
      · try simp only [decide_eq_true_eq, decide_eq_false_iff_not, Bool.not_eq_true', Bool.not_eq_false', Bool.and_eq_true, Bool.or_eq_true, Bool.and_eq_false_iff, Bool.or_eq_false_iff, Int.not_lt, Int.not_le] at hc1
        have hgood : refP v N k = true := by simpa using hc1
        refine TW.skip ?_
        refine TQ.blkN ?_
        refine TQ.thenN (hY6 _ _ ?_)
        refine TW.region ?_
        refine TL.p Pu.mv ?_
        refine TL.p Pu.ad ?_
        refine TL.p Pu.as ?_
        refine TL.nil ?_
        refine TQ.thenN (hZ0 (k + 1) _ _ ?_ ?_ (by repeat (first | exact trivial | refine ⟨rfl, ?_⟩ | refine ⟨trivial, ?_⟩)) ?_)
        · refine ⟨by omega, fun j hj => ?_⟩
          by_cases h : j = k
          · subst h; exact hgood
          · exact hall j (by omega)
        · exact (by first | omega | (simp only []; omega) | (simp; omega))
        · exact (by repeat (first | exact KSub.nil | refine KSub.cons (by repeat (first | exact Pick.hd | apply Pick.tl)) ?_))
    refine TW.dw 24 ?_
    refine RK.tk Pu.mv ?_
    refine RK.tk Pu.mv ?_
    refine RK.tk (Pu.el ty_et24) ?_
    refine RK.tk (Pu.ld ty_sc3) ?_
    refine RK.tk Pu.mv ?_
    refine RK.tk Pu.sb ?_
    refine RK.keep ?_
    refine RK.keep ?_
    refine RK.keep ?_
    refine RK.keep ?_
    refine RK.keep ?_
    refine RK.keep ?_
    refine RK.keep ?_
    refine RK.keep ?_
    refine RK.keep ?_
    refine RK.keep ?_
    refine RK.keep ?_
    refine RK.keep ?_
    refine RK.keep ?_
    refine RK.keep ?_
    refine RK.keep ?_
    refine RK.keep ?_
    refine RK.keep ?_
    refine RK.keep ?_
    refine RK.ch [false, true, true, true, true, true, true, true, true, true, true, true, true, true, true, true, true, true] ?_ trivial
    refine WK.cr rfl (enters Tryz.func83 rfl rfl) (fun w hw => by
        exact within5_any _ _ _ _) ?_
    refine WK.p Pu.no ?_
    refine WK.p Pu.mv ?_
    refine WK.guard (t := 20) rfl (fun hg1 => ?_) (fun hg1 => ?_)
    · try simp only [decide_eq_true_eq, decide_eq_false_iff_not, Bool.not_eq_true', Bool.not_eq_false', Int.natCast_pos] at hg1
      refine WK.ps ?_
      refine WK.ps ?_
      refine WK.ps ?_
      refine WK.ps ?_
      refine WK.ps ?_
      refine WK.ps ?_
      refine WK.ps ?_
      refine WK.ps ?_
      refine WK.ps ?_
      refine WK.ps ?_
      refine WK.ps ?_
      refine WK.ps ?_
      refine WK.ps ?_
      refine WK.ps ?_
      refine WK.p Pu.kt ?_
      refine WK.n ?_
      refine TL.nil ?_
      exact TQ.sub (by repeat (first | exact trivial | refine ⟨rfl, ?_⟩ | refine ⟨trivial, ?_⟩ | refine ⟨(by show some (Value.bool _) = some (Value.bool _); simp [hg1, refP, tnP]), ?_⟩)) (by repeat (first | exact KSub.nil | refine KSub.cons (by repeat (first | exact Pick.hd | apply Pick.tl)) ?_)) hJ1
    · try simp only [decide_eq_true_eq, decide_eq_false_iff_not, Bool.not_eq_true', Bool.not_eq_false', Int.natCast_pos] at hg1
      refine WK.p Pu.mv ?_
      refine WK.p Pu.gt ?_
      refine WK.p Pu.mv ?_
      refine WK.guard (t := 23) rfl (fun hg2 => ?_) (fun hg2 => ?_)
      · try simp only [decide_eq_true_eq, decide_eq_false_iff_not, Bool.not_eq_true', Bool.not_eq_false', Int.natCast_pos] at hg2
        refine WK.p Pu.mv ?_
        refine WK.p Pu.mv ?_
        refine WK.p (Pu.el ty_et24) ?_
        refine WK.p (Pu.ld ty_sc3) ?_
        refine WK.p Pu.mv ?_
        refine WK.p Pu.mv ?_
        refine WK.p Pu.sb ?_
        refine WK.p (Pu.el (q := k - 1) ty_et24 (hk := tnP k)) ?_
        refine WK.p (Pu.ld ty_sc3) ?_
        refine WK.p Pu.le ?_
        refine WK.p Pu.kt ?_
        refine WK.p Pu.kf ?_
        refine WK.n ?_
        refine TL.nil ?_
        exact TQ.sub (by repeat (first | exact trivial | refine ⟨rfl, ?_⟩ | refine ⟨trivial, ?_⟩ | refine ⟨(by show some (Value.bool _) = some (Value.bool _); simp [hg1, hg2, refP, tnP]), ?_⟩)) (by repeat (first | exact KSub.nil | refine KSub.cons (by repeat (first | exact Pick.hd | apply Pick.tl)) ?_)) hJ1
      · try simp only [decide_eq_true_eq, decide_eq_false_iff_not, Bool.not_eq_true', Bool.not_eq_false', Int.natCast_pos] at hg2
        refine WK.ps ?_
        refine WK.ps ?_
        refine WK.ps ?_
        refine WK.ps ?_
        refine WK.ps ?_
        refine WK.ps ?_
        refine WK.ps ?_
        refine WK.ps ?_
        refine WK.ps ?_
        refine WK.ps ?_
        refine WK.p Pu.kf ?_
        refine WK.p Pu.kf ?_
        refine WK.n ?_
        refine TL.nil ?_
        exact TQ.sub (by repeat (first | exact trivial | refine ⟨rfl, ?_⟩ | refine ⟨trivial, ?_⟩ | refine ⟨(by show some (Value.bool _) = some (Value.bool _); simp [hg1, hg2, refP, tnP]), ?_⟩)) (by repeat (first | exact KSub.nil | refine KSub.cons (by repeat (first | exact Pick.hd | apply Pick.tl)) ?_)) hJ1
  · try simp only [decide_eq_true_eq, decide_eq_false_iff_not, Bool.not_eq_true', Bool.not_eq_false', Bool.and_eq_true, Bool.or_eq_true, Bool.and_eq_false_iff, Bool.or_eq_false_iff, Int.not_lt, Int.not_le] at hc0
    refine TW.exit ?_
    refine TQ.thenX ?_
    refine TQ.thenX ?_
    refine TQ.blkX ?_
    refine TQ.thenN (hY2 _ _ ?_)
    refine TW.seq fun Y9 hY9 => ?_
    refine TW.region ?_
    refine TL.p Pu.as ?_
    refine TL.nil ?_
    refine TQ.thenN (hY9 _ _ ?_)
    refine TW.ret ?_
    refine TQ.ret Tryz.results53 rfl ((.tmp rfl .nil)) ?_
    exact fun w hw => ⟨ret_bool (by
      obtain rfl : k = n := by omega
      exact allB_iff.2 hall), Chg.ext hw.chg⟩
end Go.Proofs.YtljhdcclajikiaaGreatDoor
