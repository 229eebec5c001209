/-
  Part 5 of the proof of loadTrue_holds: declarations of several texts, in build order. No condition on a program.
-/
import Derived.Test.YtjephihlkjpohaaGreatDoorTrue04
import Derived.Test.YtjephihlkjpohaaGreatDoorTrue03
namespace Go.Proofs.YtjephihlkjpohaaGreatDoor
set_option linter.all false
set_option linter.unusedVariables false
set_option linter.unusedSimpArgs false
open Go.RowKit
theorem Chg.trans' {S : List Nat} {a b c : World} (k : Chg S b c) (h : Chg S a b) : Chg S a c := h.trans k
theorem everyInt1_any {g : FuncId} {fs cs : List Value} {b : Nat} {u : Value} {p : Bool} {M L : List Fact} {w : World} (hen : Enters Tryz.prog g) (hb : OldB w b [.func (.func g) fs.toArray cs.toArray]) (hbM : b ∉ feet M) (hM : Sat (feet M) w M w)
    (hg : ∀ w', Sat (feet M) w M w' → CallsK Tryz.prog g (fs ++ [u] ++ cs).toArray M w' Unit (fun _ => .bool p) (fun _ => L)) :
    CallsK Tryz.prog 153 #[u, .pointer (some ⟨b, 0, none⟩)] M w Unit (fun _ => .bool (!p)) (fun _ => L) := by
  have hAp : Apart (feet M) (some ⟨b, 0, none⟩) := fun q hq => by cases hq; exact hbM
  refine K_enter (args := [u, .pointer (some ⟨b, 0, none⟩)]) (S := feet M) (K := M) Tryz.func153 rfl Tryz.ntmps153 rfl hM ?_
  refine TW.seq fun Y1 hY1 => ?_
  refine TW.region ?_
  refine TL.p Pu.as ?_
  refine TL.nil ?_
  refine TQ.thenN (hY1 _ _ ?_)
  refine TW.seq fun Y2 hY2 => ?_
  refine TW.region ?_
  refine TL.p (by first | exact (Pu.ld ty_sc153) | exact (Pu.ldo ty_sc153)) ?_
  refine TL.p Pu.mv ?_
  refine TL.cvk rfl rfl hen (by rw [List.append_nil]) (fun w hw => by
      exact hg w hw) ?_
  intro _
  refine TL.p Pu.no ?_
  refine TL.p Pu.as ?_
  refine TL.nil ?_
  refine TQ.thenN (hY2 _ _ ?_)
  refine TW.ret ?_
  refine TQ.ret Tryz.results153 rfl ((.tmp rfl .nil)) ?_
  exact fun w hw => ⟨(), rfl, by simpa using hw⟩
theorem everyInt_st {g : FuncId} {fs cs : List Value} {A : Option Addr} {n cp : Nat} {v : Nat → Int} {p : Nat → Bool} {M : Nat → List Fact} {w : World} (hen : Enters Tryz.prog g) (hn : n ≤ 9223372036854775807)
    (hR : RdR w 1 A n (fun k => [.int .i64 (v k)])) (hA : 0 < n → Apart (feet (M 0)) A) (hM : Sat (feet (M 0)) w (M 0) w) (hfe : ∀ k, feet (M k) = feet (M 0))
    (hg : ∀ k, k < n → (∀ j, j < k → p j = true) → ∀ w', Sat (feet (M 0)) w (M k) w' → CallsK Tryz.prog g (fs ++ [Value.int .i64 (v k)] ++ cs).toArray (M k) w' Unit (fun _ => .bool (p k)) (fun _ => M (k + 1))) :
    CallsK Tryz.prog 124 #[.slice A n cp, .func (.func g) fs.toArray cs.toArray] (M 0) w (Fst (fun k => !p k) n) (fun x => .bool (!decide (x.1 < n))) (fun x => M (aft n x.1)) := by
  refine K_enter (S := feet (M 0)) (K := M 0) Tryz.func124 rfl Tryz.ntmps124 rfl hM ?_
  refine TW.seq fun Y1 hY1 => ?_
  refine TW.region ?_
  refine TL.m Mk.bx ?_
  intro b1
  refine TL.p Pu.as ?_
  refine TL.nil ?_
  refine TQ.thenN (hY1 _ _ ?_)
  refine TW.seq fun Y2 hY2 => ?_
  refine TW.region ?_
  refine TL.p Pu.mv ?_
  refine TL.p Pu.fn ?_
  refine TL.call rfl (enters Tryz.func118 rfl rfl) (List.perm_append_comm (l₁ := [_])) rfl (fun w hw => by
      have hB : Blk w b1 _ #[.func (.func g) fs.toArray cs.toArray] := hw.holds _ (List.mem_cons_self ..)
      have hbM : b1 ∉ feet (M 0) := fun hm => (List.nodup_cons.1 (show (b1 :: feet (M 0)).Nodup from hw.nd)).1 hm
      have hw2 : Sat (feet (M 0)) _ (M 0) w := Has.sat ⟨[_], List.perm_append_comm (l₁ := [_])⟩ hw
      refine hasInt_st (p := fun k => !p k) (fs := []) (cs := [.pointer (some ⟨b1, 0, none⟩)]) (enters Tryz.func153 rfl rfl) hn (hR.sat0 hw hA) hA hw2.self hfe (fun k hk hp w' hw' => ?_)
      have h1 : OldB w' b1 [.func (.func g) fs.toArray cs.toArray] := (OldB.of_blk (cs := [_]) hB).sat hw' hbM
      have h2 : Sat (feet (M k)) w' (M k) w' := hw'.self
      refine everyInt1_any (p := p k)  hen h1 (by rw [hfe]; exact hbM) h2 fun w3 hw3 => hg k hk (fun j hj => by simpa using hp j hj) w3 ?_
      exact hw3.from (hw'.chg.trans' hw.chg) (fun q hq => .inl (by rw [← hfe k]; exact hq))) ?_
  intro x
  refine TL.p Pu.no ?_
  refine TL.p Pu.as ?_
  refine TL.nil ?_
  refine TQ.thenN (hY2 _ _ ?_)
  refine TW.ret ?_
  refine TQ.ret Tryz.results124 rfl ((.tmp rfl .nil)) ?_
  exact fun w hw => ⟨x, rfl, Has.sat ⟨[_], List.Perm.refl _⟩ hw⟩
theorem indexPack_any {g : FuncId} {fs cs : List Value} {A : Option Addr} {n cp : Nat} {v : Nat → Nat → Int} {p : Nat → Bool} {M : Nat → List Fact} {w : World} (hen : Enters Tryz.prog g) (hn : n ≤ 9223372036854775807)
    (hR : RdR w 11 A n (fun k => packL (v k))) (hA : 0 < n → Apart (feet (M 0)) A) (hM : Sat (feet (M 0)) w (M 0) w) (hfe : ∀ k, feet (M k) = feet (M 0))
    (hg : ∀ k, k < n → (∀ j, j < k → p j = false) → ∀ w', Sat (feet (M 0)) w (M k) w' → CallsK Tryz.prog g (fs ++ [Value.agg (packL (v k)).toArray] ++ cs).toArray (M k) w' Unit (fun _ => .bool (p k)) (fun _ => M (k + 1))) :
    CallsK Tryz.prog 152 #[.slice A n cp, .func (.func g) fs.toArray cs.toArray] (M 0) w (Fst p n) (fun x => .int .i64 (if x.1 < n then (x.1 : Int) else -1)) (fun x => M (aft n x.1)) := by
  refine K_enter (S := feet (M 0)) (K := M 0) Tryz.func152 rfl Tryz.ntmps152 rfl hM ?_
  refine TW.seq fun Y1 hY1 => ?_
  refine TW.region ?_
  refine TL.p Pu.as ?_
  refine TL.nil ?_
  refine TQ.thenN (hY1 _ _ ?_)
  refine TW.seq fun Y2 hY2 => ?_
  refine TW.seq fun Y3 hY3 => ?_
  refine TW.region ?_
  refine TL.p Pu.mv ?_
  refine TL.p (Pu.ln Tryz.underlying22) ?_
  refine TL.p Pu.mv ?_
  refine TL.nil ?_
  refine TQ.thenN (hY3 _ _ ?_)
  refine TW.block ?_
  refine TW.loop1 (fun (k : Nat) => [(8, .int .i64 (k : Int)), (7, .int .i64 (n : Int)), (0, .slice A n cp), (1, .func (.func g) fs.toArray cs.toArray)]) (fun k => M k) (fun k => k ≤ n ∧ ∀ j, j < k → p j = false) (fun k => n - k) 0 (by repeat (first | exact trivial | refine ⟨rfl, ?_⟩ | refine ⟨trivial, ?_⟩)) ?_ ?_ ?_
  · exact KSub.refl _
  · exact ⟨by omega, fun j hj => by omega⟩
  rintro k ⟨hk, hall⟩ Z0 hZ0
  refine TW.seq fun Y4 hY4 => ?_
  refine TW.region ?_
  refine TL.p Pu.lt ?_
  refine TL.nil ?_
  refine TQ.thenN (hY4 _ _ ?_)
  refine TW.seq fun Y5 hY5 => ?_
  refine TW.cond rfl (fun hc0 => ?_) (fun hc0 => ?_)
  · try simp only [decide_eq_true_eq, decide_eq_false_iff_not, Bool.not_eq_true', Bool.not_eq_false', Bool.and_eq_true, Bool.or_eq_true, Bool.and_eq_false_iff, Bool.or_eq_false_iff, Int.not_lt, Int.not_le] at hc0
    have hkn : k < n := by omega
    have hA := hA (by omega)
    refine TW.skip ?_
    refine TQ.thenN (hY5 _ _ ?_)
    refine TW.seq fun Y6 hY6 => ?_
    refine TW.block ?_
    refine TW.seq fun Y7 hY7 => ?_
    refine TW.region ?_
    refine TL.p Pu.mv ?_
    refine TL.p Pu.as ?_
    refine TL.nil ?_
    refine TQ.thenN (hY7 _ _ ?_)
    refine TW.seq fun Y8 hY8 => ?_
    refine TW.region ?_
    refine TL.p Pu.mv ?_
    refine TL.p Pu.mv ?_
    refine TL.p Pu.mv ?_
    refine TL.p (Pu.el ty_et22) ?_
    refine TL.p (Pu.lds ty_ag45) ?_
    refine TL.cvk rfl rfl hen (by rw [List.append_nil]) (fun w hw => by
        exact hg k (by omega) hall w hw) ?_
    intro _
    refine TL.nil ?_
    refine TQ.thenN (hY8 _ _ ?_)
    refine TW.cond rfl (fun hc1 => ?_) (fun hc1 => ?_)
    · try simp only [decide_eq_true_eq, decide_eq_false_iff_not, Bool.not_eq_true', Bool.not_eq_false', Bool.and_eq_true, Bool.or_eq_true, Bool.and_eq_false_iff, Bool.or_eq_false_iff, Int.not_lt, Int.not_le] at hc1
      refine TW.seq fun Y9 hY9 => ?_
      refine TW.region ?_
      refine TL.p Pu.mv ?_
      refine TL.p Pu.as ?_
      refine TL.nil ?_
      refine TQ.thenN (hY9 _ _ ?_)
      refine TW.ret ?_
      refine TQ.blkR ?_
      refine TQ.thenR ?_
      refine TQ.thenR ?_
      refine TQ.blkR ?_
      refine TQ.thenR ?_
      refine TQ.ret Tryz.results152 rfl ((.tmp rfl .nil)) ?_
      exact fun w hw => ⟨⟨k, by omega, hall, fun _ => hc1⟩, by simp [hkn]; rfl, by simpa [aft, hkn] using hw⟩
    · try simp only [decide_eq_true_eq, decide_eq_false_iff_not, Bool.not_eq_true', Bool.not_eq_false', Bool.and_eq_true, Bool.or_eq_true, Bool.and_eq_false_iff, Bool.or_eq_false_iff, Int.not_lt, Int.not_le] at hc1
      refine TW.skip ?_
      refine TQ.blkN ?_
      refine TQ.thenN (hY6 _ _ ?_)
      refine TW.region ?_
      refine TL.p Pu.ad ?_
      refine TL.p Pu.mv ?_
      refine TL.nil ?_
      refine TQ.thenN (hZ0 (k + 1) _ _ ?_ ?_ (by repeat (first | exact trivial | refine ⟨rfl, ?_⟩ | refine ⟨trivial, ?_⟩)) ?_)
      · refine ⟨by omega, fun j hj => ?_⟩
        by_cases h : j = k
        · subst h; exact hc1
        · exact hall j (by omega)
      · exact (by first | omega | (simp only []; omega) | (simp; omega))
      · rw [List.append_nil]; exact KSub.refl _
  · try simp only [decide_eq_true_eq, decide_eq_false_iff_not, Bool.not_eq_true', Bool.not_eq_false', Bool.and_eq_true, Bool.or_eq_true, Bool.and_eq_false_iff, Bool.or_eq_false_iff, Int.not_lt, Int.not_le] at hc0
    have hkn : k = n := by omega
    refine TW.exit ?_
    refine TQ.thenX ?_
    refine TQ.thenX ?_
    refine TQ.blkX ?_
    refine TQ.thenN (hY2 _ _ ?_)
    refine TW.seq fun Y10 hY10 => ?_
    refine TW.region ?_
    refine TL.p Pu.as ?_
    refine TL.nil ?_
    refine TQ.thenN (hY10 _ _ ?_)
    refine TW.ret ?_
    refine TQ.ret Tryz.results152 rfl ((.tmp rfl .nil)) ?_
    exact fun w hw => ⟨⟨k, by omega, hall, fun h => by omega⟩, by simp [hkn]; rfl, by simpa [aft, hkn] using hw⟩
theorem hasPack_st {g : FuncId} {fs cs : List Value} {A : Option Addr} {n cp : Nat} {v : Nat → Nat → Int} {p : Nat → Bool} {M : Nat → List Fact} {w : World} (hen : Enters Tryz.prog g) (hn : n ≤ 9223372036854775807)
    (hR : RdR w 11 A n (fun k => packL (v k))) (hA : 0 < n → Apart (feet (M 0)) A) (hM : Sat (feet (M 0)) w (M 0) w) (hfe : ∀ k, feet (M k) = feet (M 0))
    (hg : ∀ k, k < n → (∀ j, j < k → p j = false) → ∀ w', Sat (feet (M 0)) w (M k) w' → CallsK Tryz.prog g (fs ++ [Value.agg (packL (v k)).toArray] ++ cs).toArray (M k) w' Unit (fun _ => .bool (p k)) (fun _ => M (k + 1))) :
    CallsK Tryz.prog 122 #[.slice A n cp, .func (.func g) fs.toArray cs.toArray] (M 0) w (Fst p n) (fun x => .bool (decide (x.1 < n))) (fun x => M (aft n x.1)) := by
  refine K_enter (S := feet (M 0)) (K := M 0) Tryz.func122 rfl Tryz.ntmps122 rfl hM ?_
  refine TW.seq fun Y1 hY1 => ?_
  refine TW.region ?_
  refine TL.p Pu.as ?_
  refine TL.nil ?_
  refine TQ.thenN (hY1 _ _ ?_)
  refine TW.seq fun Y2 hY2 => ?_
  refine TW.region ?_
  refine TL.p Pu.mv ?_
  refine TL.p Pu.mv ?_
  refine TL.call rfl (enters Tryz.func152 rfl rfl) (by rw [List.append_nil]) rfl (fun w hw => by
      exact indexPack_any hen hn (hR.sat0 hw hA) hA hw.self hfe (fun k hk hp w' hw' => hg k hk hp w' (hw'.from hw.chg fun _ hb => .inl hb))) ?_
  intro x
  refine TL.p Pu.ge ?_
  refine TL.p Pu.as ?_
  refine TL.nil ?_
  refine TQ.thenN (hY2 _ _ ?_)
  refine TW.ret ?_
  refine TQ.ret Tryz.results122 rfl ((.tmp rfl .nil)) ?_
  exact fun w hw => ⟨x, by by_cases h : x.1 < n <;> simp [retV, h], by simpa using hw⟩
theorem everyPack1_any {g : FuncId} {fs cs : List Value} {b : Nat} {u : Nat → Int} {p : Bool} {M L : List Fact} {w : World} (hen : Enters Tryz.prog g) (hb : OldB w b [.func (.func g) fs.toArray cs.toArray]) (hbM : b ∉ feet M) (hM : Sat (feet M) w M w)
    (hg : ∀ w', Sat (feet M) w M w' → CallsK Tryz.prog g (fs ++ [Value.agg (packL u).toArray] ++ cs).toArray M w' Unit (fun _ => .bool p) (fun _ => L)) :
    CallsK Tryz.prog 123 #[Value.agg (packL u).toArray, .pointer (some ⟨b, 0, none⟩)] M w Unit (fun _ => .bool (!p)) (fun _ => L) := by
  have hAp : Apart (feet M) (some ⟨b, 0, none⟩) := fun q hq => by cases hq; exact hbM
  refine K_enter (args := [Value.agg (packL u).toArray, .pointer (some ⟨b, 0, none⟩)]) (S := feet M) (K := M) Tryz.func123 rfl Tryz.ntmps123 rfl hM ?_
  refine TW.seq fun Y1 hY1 => ?_
  refine TW.region ?_
  refine TL.m Mk.bx ?_
  intro b1
  refine TL.p Pu.as ?_
  refine TL.nil ?_
  refine TQ.thenN (hY1 _ _ ?_)
  refine TW.seq fun Y2 hY2 => ?_
  refine TW.region ?_
  refine TL.p (by first | exact (Pu.ld ty_sc48) | exact (Pu.ldo ty_sc48)) ?_
  refine TL.p (by first | exact (Pu.lds ty_ag45) | exact (Pu.ldso ty_ag45)) ?_
  refine TL.cvk rfl rfl hen (List.perm_append_comm (l₁ := [_])) (fun w hw => by
      exact hg w (Has.sat ⟨[_], List.perm_append_comm (l₁ := [_])⟩ hw)) ?_
  intro _
  refine TL.p Pu.no ?_
  refine TL.p Pu.as ?_
  refine TL.nil ?_
  refine TQ.thenN (hY2 _ _ ?_)
  refine TW.ret ?_
  refine TQ.ret Tryz.results123 rfl ((.tmp rfl .nil)) ?_
  exact fun w hw => ⟨(), rfl, Has.sat ⟨[_], List.Perm.refl _⟩ hw⟩
theorem everyPack_st {g : FuncId} {fs cs : List Value} {A : Option Addr} {n cp : Nat} {v : Nat → Nat → Int} {p : Nat → Bool} {M : Nat → List Fact} {w : World} (hen : Enters Tryz.prog g) (hn : n ≤ 9223372036854775807)
    (hR : RdR w 11 A n (fun k => packL (v k))) (hA : 0 < n → Apart (feet (M 0)) A) (hM : Sat (feet (M 0)) w (M 0) w) (hfe : ∀ k, feet (M k) = feet (M 0))
    (hg : ∀ k, k < n → (∀ j, j < k → p j = true) → ∀ w', Sat (feet (M 0)) w (M k) w' → CallsK Tryz.prog g (fs ++ [Value.agg (packL (v k)).toArray] ++ cs).toArray (M k) w' Unit (fun _ => .bool (p k)) (fun _ => M (k + 1))) :
    CallsK Tryz.prog 86 #[.slice A n cp, .func (.func g) fs.toArray cs.toArray] (M 0) w (Fst (fun k => !p k) n) (fun x => .bool (!decide (x.1 < n))) (fun x => M (aft n x.1)) := by
  refine K_enter (S := feet (M 0)) (K := M 0) Tryz.func86 rfl Tryz.ntmps86 rfl hM ?_
  refine TW.seq fun Y1 hY1 => ?_
  refine TW.region ?_
  refine TL.m Mk.bx ?_
  intro b1
  refine TL.p Pu.as ?_
  refine TL.nil ?_
  refine TQ.thenN (hY1 _ _ ?_)
  refine TW.seq fun Y2 hY2 => ?_
  refine TW.region ?_
  refine TL.p Pu.mv ?_
  refine TL.p Pu.fn ?_
  refine TL.call rfl (enters Tryz.func122 rfl rfl) (List.perm_append_comm (l₁ := [_])) rfl (fun w hw => by
      have hB : Blk w b1 _ #[.func (.func g) fs.toArray cs.toArray] := hw.holds _ (List.mem_cons_self ..)
      have hbM : b1 ∉ feet (M 0) := fun hm => (List.nodup_cons.1 (show (b1 :: feet (M 0)).Nodup from hw.nd)).1 hm
      have hw2 : Sat (feet (M 0)) _ (M 0) w := Has.sat ⟨[_], List.perm_append_comm (l₁ := [_])⟩ hw
      refine hasPack_st (p := fun k => !p k) (fs := []) (cs := [.pointer (some ⟨b1, 0, none⟩)]) (enters Tryz.func123 rfl rfl) hn (hR.sat0 hw hA) hA hw2.self hfe (fun k hk hp w' hw' => ?_)
      have h1 : OldB w' b1 [.func (.func g) fs.toArray cs.toArray] := (OldB.of_blk (cs := [_]) hB).sat hw' hbM
      have h2 : Sat (feet (M k)) w' (M k) w' := hw'.self
      refine everyPack1_any (p := p k) (u := v k) hen h1 (by rw [hfe]; exact hbM) h2 fun w3 hw3 => hg k hk (fun j hj => by simpa using hp j hj) w3 ?_
      exact hw3.from (hw'.chg.trans' hw.chg) (fun q hq => .inl (by rw [← hfe k]; exact hq))) ?_
  intro x
  refine TL.p Pu.no ?_
  refine TL.p Pu.as ?_
  refine TL.nil ?_
  refine TQ.thenN (hY2 _ _ ?_)
  refine TW.ret ?_
  refine TQ.ret Tryz.results86 rfl ((.tmp rfl .nil)) ?_
  exact fun w hw => ⟨x, rfl, Has.sat ⟨[_], List.Perm.refl _⟩ hw⟩
end Go.Proofs.YtjephihlkjpohaaGreatDoor
namespace Go.Proofs.YtjephihlkjpohaaGreatDoor
set_option linter.all false
set_option linter.unusedVariables false
set_option linter.unusedSimpArgs false
open Go.RowKit
theorem grow_any (k : Nat) (w : World) (hk : k ≤ 1000000000) (r : Nat → List Value) :
    CallsK Tryz.prog 130 #[.slice none 0 0, .int .i64 k] [] w (Option Addr × Nat) (fun x => .slice x.1 0 x.2) (fun x => [.own x.1 0 x.2 3 1 r]) := by
  refine K_enter (S := []) (K := []) Tryz.func130 rfl Tryz.ntmps130 rfl (Sat.start _) ?_
  refine TW.seq fun Y1 hY1 => ?_
  refine TW.region ?_
  refine TL.p Pu.as ?_
  refine TL.nil ?_
  refine TQ.thenN (hY1 _ _ ?_)
  refine TW.seq fun Y2 hY2 => ?_
  refine TW.seq fun Y3 hY3 => ?_
  refine TW.region ?_
  refine TL.p Pu.mv ?_
  refine TL.p Pu.lt ?_
  refine TL.nil ?_
  refine TQ.thenN (hY3 _ _ ?_)
  refine TW.condF rfl ((by first | (simp; done) | (simp; omega))) ?_
  refine TW.skip ?_
  refine TQ.thenN (hY2 _ _ ?_)
  refine TW.seq fun Y4 hY4 => ?_
  refine TW.seq fun Y5 hY5 => ?_
  refine TW.region ?_
  refine TL.p Pu.mv ?_
  refine TL.p Pu.mv ?_
  refine TL.p (Pu.cp Tryz.underlying24) ?_
  refine TL.p Pu.mv ?_
  refine TL.p (Pu.ln Tryz.underlying24) ?_
  refine TL.p Pu.sb ?_
  refine TL.p Pu.sb ?_
  refine TL.p Pu.as ?_
  refine TL.nil ?_
  refine TQ.thenN (hY5 _ _ ?_)
  refine TW.seq fun Y6 hY6 => ?_
  refine TW.region ?_
  refine TL.p Pu.mv ?_
  refine TL.p Pu.gt ?_
  refine TL.nil ?_
  refine TQ.thenN (hY6 _ _ ?_)
  refine TW.cond rfl (fun hc1 => ?_) (fun hc1 => ?_)
  · try simp only [decide_eq_true_eq, decide_eq_false_iff_not, Bool.not_eq_true', Bool.not_eq_false', Bool.and_eq_true, Bool.or_eq_true, Bool.and_eq_false_iff, Bool.or_eq_false_iff, Int.not_lt, Int.not_le] at hc1
    refine TW.region ?_
    refine TL.p Pu.mv ?_
    refine TL.p Pu.mv ?_
    refine TL.p (Pu.cp Tryz.underlying24) ?_
    refine TL.p (Pu.sh ty_et24) ?_
    refine TL.p Pu.mv ?_
    refine TL.az (r := r) ty_et24 Tryz.underlying3 ?_
    intro g1 c1 hc1 hm1
    refine TL.p Pu.mv ?_
    refine TL.p (Pu.ln Tryz.underlying24) ?_
    refine TL.p (Pu.sh ty_et24) ?_
    refine TL.p Pu.as ?_
    refine TL.nil ?_
    refine TQ.thenN (hY4 _ _ ?_)
    refine TW.seq fun Y7 hY7 => ?_
    refine TW.region ?_
    refine TL.p Pu.mv ?_
    refine TL.p Pu.as ?_
    refine TL.nil ?_
    refine TQ.thenN (hY7 _ _ ?_)
    refine TW.ret ?_
    refine TQ.ret Tryz.results130 rfl ((.tmp rfl .nil)) ?_
    exact fun w hw => ⟨(some ⟨g1, 0, none⟩, c1), rfl, hw⟩
  · try simp only [decide_eq_true_eq, decide_eq_false_iff_not, Bool.not_eq_true', Bool.not_eq_false', Bool.and_eq_true, Bool.or_eq_true, Bool.and_eq_false_iff, Bool.or_eq_false_iff, Int.not_lt, Int.not_le] at hc1
    refine TW.skip ?_
    refine TQ.thenN (hY4 _ _ ?_)
    refine TW.seq fun Y8 hY8 => ?_
    refine TW.region ?_
    refine TL.p Pu.mv ?_
    refine TL.p Pu.as ?_
    refine TL.nil ?_
    refine TQ.thenN (hY8 _ _ ?_)
    refine TW.ret ?_
    refine TQ.ret Tryz.results130 rfl ((.tmp rfl .nil)) ?_
    exact fun w hw => ⟨(none, 0), rfl, hw.sub (KSub.nilOwn KSub.nil)⟩
def tot (l : Nat → Nat) : Nat → Nat
  | 0 => 0
  | q + 1 => tot l q + l q
def catN (l : Nat → Nat) (s : Nat → Nat → List Value) : Nat → Nat → List Value
  | 0 => fun _ => []
  | q + 1 => catR (tot l q) (catN l s q) (s q)
theorem tot_mono {l : Nat → Nat} {p q : Nat} (h : p ≤ q) : tot l p ≤ tot l q := by
  induction q with
  | zero => have : p = 0 := by omega
            subst this; exact Nat.le_refl _
  | succ q ih =>
    by_cases hp : p = q + 1
    · subst hp; exact Nat.le_refl _
    · have := ih (by omega); simp only [tot]; omega
theorem concat_any {A : Option Addr} {m cp : Nat} {a : Nat → Option Addr} {l c : Nat → Nat} {v : Nat → Nat → Int} {w : World} (hm : m ≤ 1000000000) (ht : tot l m ≤ 1000000000)
    (hR : RdR w 1 A m (fun i => [.slice (a i) (l i) (c i)])) (hI : ∀ i, i < m → RdR w 1 (a i) (l i) (fun k => [.int .i64 (v i k)])) :
    CallsK Tryz.prog 94 #[.slice A m cp] [] w (Option Addr × Nat) (fun x => .slice x.1 (tot l m) x.2) (fun x => [.own x.1 (tot l m) x.2 3 1 (catN l (fun i k => [.int .i64 (v i k)]) m)]) := by
  refine K_enter (S := []) (K := []) Tryz.func94 rfl Tryz.ntmps94 rfl (Sat.start _) ?_
  refine TW.seq fun Y1 hY1 => ?_
  refine TW.region ?_
  refine TL.p Pu.as ?_
  refine TL.nil ?_
  refine TQ.thenN (hY1 _ _ ?_)
  refine TW.seq fun Y2 hY2 => ?_
  refine TW.region ?_
  refine TL.p Pu.as ?_
  refine TL.nil ?_
  refine TQ.thenN (hY2 _ _ ?_)
  refine TW.seq fun Y3 hY3 => ?_
  refine TW.seq fun Y4 hY4 => ?_
  refine TW.region ?_
  refine TL.p Pu.mv ?_
  refine TL.p (Pu.ln Tryz.underlying143) ?_
  refine TL.p Pu.mv ?_
  refine TL.nil ?_
  refine TQ.thenN (hY4 _ _ ?_)
  refine TW.block ?_
  refine TW.loop2 (fun (q : Nat) (z : Int) => [(11, .int .i64 (q : Int)), (10, .int .i64 (m : Int)), (9, .slice A m cp), (0, .slice A m cp), (3, .int .i64 z)]) (fun q z => []) (fun q z => q ≤ m ∧ z = (tot l q : Int)) (fun q z => m - q) 0 _ (by repeat (first | exact trivial | refine ⟨rfl, ?_⟩ | refine ⟨trivial, ?_⟩)) ?_ ?_ ?_
  · exact (by repeat (first | exact KSub.nil | refine KSub.cons (by repeat (first | exact Pick.hd | apply Pick.tl)) ?_))
  · exact ⟨by omega, rfl⟩
  rintro q z ⟨hq, hz⟩ Z0 hZ0
  refine TW.seq fun Y5 hY5 => ?_
  refine TW.region ?_
  refine TL.p Pu.lt ?_
  refine TL.nil ?_
  refine TQ.thenN (hY5 _ _ ?_)
  refine TW.seq fun Y6 hY6 => ?_
  refine TW.cond rfl (fun hc0 => ?_) (fun hc0 => ?_)
  · try simp only [decide_eq_true_eq, decide_eq_false_iff_not, Bool.not_eq_true', Bool.not_eq_false', Bool.and_eq_true, Bool.or_eq_true, Bool.and_eq_false_iff, Bool.or_eq_false_iff, Int.not_lt, Int.not_le] at hc0
    have hqm : q < m := by omega
    have h1 := tot_mono (l := l) (show q + 1 ≤ m by omega)
    simp only [tot] at h1
    refine TW.skip ?_
    refine TQ.thenN (hY6 _ _ ?_)
    refine TW.seq fun Y7 hY7 => ?_
    refine TW.block ?_
    refine TW.seq fun Y8 hY8 => ?_
    refine TW.region ?_
    refine TL.p (Pu.el ty_et143) ?_
    refine TL.p (Pu.ld ty_sc24) ?_
    refine TL.p Pu.as ?_
    refine TL.nil ?_
    refine TQ.thenN (hY8 _ _ ?_)
    refine TW.seq fun Y9 hY9 => ?_
    refine TW.region ?_
    refine TL.p Pu.mv ?_
    refine TL.p Pu.mv ?_
    refine TL.p (Pu.ln Tryz.underlying24) ?_
    refine TL.p Pu.ad ?_
    refine TL.p Pu.as ?_
    refine TL.nil ?_
    refine TQ.thenN (hY9 _ _ ?_)
    refine TW.seq fun Y10 hY10 => ?_
    refine TW.region ?_
    refine TL.p Pu.mv ?_
    refine TL.p Pu.lt ?_
    refine TL.nil ?_
    refine TQ.thenN (hY10 _ _ ?_)
    refine TW.condF rfl ((by first | (simp; done) | (simp; omega))) ?_
    refine TW.skip ?_
    refine TQ.blkN ?_
    refine TQ.thenN (hY7 _ _ ?_)
    refine TW.region ?_
    refine TL.p Pu.ad ?_
    refine TL.p Pu.mv ?_
    refine TL.nil ?_
    refine TQ.thenN (hZ0 (q + 1) _ _ _ ?_ ?_ (by repeat (first | exact trivial | refine ⟨rfl, ?_⟩ | refine ⟨trivial, ?_⟩)) ?_)
    · exact ⟨by omega, by simp only [tot]; omega⟩
    · exact (by first | omega | (simp only []; omega) | (simp; omega))
    · exact (by repeat (first | exact KSub.nil | refine KSub.cons (by repeat (first | exact Pick.hd | apply Pick.tl)) ?_))
  · try simp only [decide_eq_true_eq, decide_eq_false_iff_not, Bool.not_eq_true', Bool.not_eq_false', Bool.and_eq_true, Bool.or_eq_true, Bool.and_eq_false_iff, Bool.or_eq_false_iff, Int.not_lt, Int.not_le] at hc0
    refine TW.exit ?_
    refine TQ.thenX ?_
    refine TQ.thenX ?_
    refine TQ.blkX ?_
    refine TQ.thenN (hY3 _ _ ?_)
    refine TW.seq fun Y11 hY11 => ?_
    refine TW.region ?_
    refine TL.p Pu.mv ?_
    refine TL.call (M := []) rfl (enters Tryz.func130 rfl rfl) (List.Perm.refl _) rfl (fun w hw => by
        obtain rfl : q = m := by omega
        subst hz
        exact grow_any _ w ht (fun _ => [])) ?_
    rintro ⟨A0, c0⟩
    refine TL.p Pu.as ?_
    refine TL.nil ?_
    refine TQ.thenN (hY11 _ _ ?_)
    refine TW.seq fun Y12 hY12 => ?_
    refine TW.seq fun Y13 hY13 => ?_
    refine TW.region ?_
    refine TL.p Pu.mv ?_
    refine TL.p (Pu.ln Tryz.underlying143) ?_
    refine TL.p Pu.mv ?_
    refine TL.nil ?_
    refine TQ.thenN (hY13 _ _ ?_)
    refine TW.block ?_
    refine TW.loop3 (fun (q : Nat) (A1 : Option Addr) (c1 : Nat) => [(27, .int .i64 (q : Int)), (26, .int .i64 (m : Int)), (25, .slice A m cp), (6, .slice A1 (tot l q) c1)]) (fun q A1 c1 => [.own A1 (tot l q) c1 3 1 (catN l (fun i k => [.int .i64 (v i k)]) q)]) (fun q A1 c1 => q ≤ m) (fun q A1 c1 => m - q) 0 _ _ (by repeat (first | exact trivial | refine ⟨rfl, ?_⟩ | refine ⟨trivial, ?_⟩)) ?_ ?_ ?_
    · exact (by repeat (first | exact KSub.nil | refine KSub.cons (by repeat (first | exact Pick.hd | apply Pick.tl)) ?_))
    · exact Nat.zero_le _
    rintro q A1 c1 hq Z1 hZ1
    refine TW.seq fun Y14 hY14 => ?_
    refine TW.region ?_
    refine TL.p Pu.lt ?_
    refine TL.nil ?_
    refine TQ.thenN (hY14 _ _ ?_)
    refine TW.seq fun Y15 hY15 => ?_
    refine TW.cond rfl (fun hc2 => ?_) (fun hc2 => ?_)
    · try simp only [decide_eq_true_eq, decide_eq_false_iff_not, Bool.not_eq_true', Bool.not_eq_false', Bool.and_eq_true, Bool.or_eq_true, Bool.and_eq_false_iff, Bool.or_eq_false_iff, Int.not_lt, Int.not_le] at hc2
      have hqm : q < m := by omega
      have h1 := tot_mono (l := l) (show q + 1 ≤ m by omega)
      simp only [tot] at h1
      have hIq := hI q hqm
      refine TW.skip ?_
      refine TQ.thenN (hY15 _ _ ?_)
      refine TW.seq fun Y16 hY16 => ?_
      refine TW.block ?_
      refine TW.seq fun Y17 hY17 => ?_
      refine TW.region ?_
      refine TL.p (Pu.el ty_et143) ?_
      refine TL.p (Pu.ld ty_sc24) ?_
      refine TL.p Pu.as ?_
      refine TL.nil ?_
      refine TQ.thenN (hY17 _ _ ?_)
      refine TW.region ?_
      refine TL.p Pu.mv ?_
      refine TL.p Pu.mv ?_
      first | refine TL.a0 ty_et24 ?_ | refine TL.ap ty_et24 ?_
      intro A1 c1
      refine TL.p Pu.as ?_
      refine TL.nil ?_
      refine TQ.blkN ?_
      refine TQ.thenN (hY16 _ _ ?_)
      refine TW.region ?_
      refine TL.p Pu.ad ?_
      refine TL.p Pu.mv ?_
      refine TL.nil ?_
      refine TQ.thenN (hZ1 (q + 1) _ _ _ _ ?_ ?_ (by repeat (first | exact trivial | refine ⟨rfl, ?_⟩ | refine ⟨trivial, ?_⟩)) ?_)
      · exact (by omega)
      · exact (by first | omega | (simp only []; omega) | (simp; omega))
      · exact (by repeat (first | exact KSub.nil | refine KSub.cons (by repeat (first | exact Pick.hd | apply Pick.tl)) ?_))
    · try simp only [decide_eq_true_eq, decide_eq_false_iff_not, Bool.not_eq_true', Bool.not_eq_false', Bool.and_eq_true, Bool.or_eq_true, Bool.and_eq_false_iff, Bool.or_eq_false_iff, Int.not_lt, Int.not_le] at hc2
      obtain rfl : q = m := by omega
      refine TW.exit ?_
      refine TQ.thenX ?_
      refine TQ.thenX ?_
      refine TQ.blkX ?_
      refine TQ.thenN (hY12 _ _ ?_)
      refine TW.seq fun Y18 hY18 => ?_
      refine TW.region ?_
      refine TL.p Pu.mv ?_
      refine TL.p Pu.as ?_
      refine TL.nil ?_
      refine TQ.thenN (hY18 _ _ ?_)
      refine TW.ret ?_
      refine TQ.ret Tryz.results94 rfl ((.tmp rfl .nil)) ?_
      exact fun w hw => ⟨(A1, c1), rfl, hw⟩
end Go.Proofs.YtjephihlkjpohaaGreatDoor
namespace Go.Proofs.YtjephihlkjpohaaGreatDoor
set_option linter.all false
set_option linter.unusedVariables false
set_option linter.unusedSimpArgs false
open Go.RowKit
def tieL (a : Nat → Option Addr) (l c : Nat → Nat) : List Value := [.slice (a 0) (l 0) (c 0), .slice (a 1) (l 1) (c 1), .slice (a 2) (l 2) (c 2)]
theorem need_any (b : Bool) (e : Int) (w : World) (he : e ≠ 0) :
    Calls Tryz.prog 76 #[.bool b, .int .i64 e] w (Try w errs (if b then 0 else e) (.tuple #[])) := by
  refine K_enter (S := []) (K := []) Tryz.func76 rfl Tryz.ntmps76 rfl (Sat.start _) ?_
  refine TW.seq fun Y1 hY1 => ?_
  refine TW.region ?_
  refine TL.p Pu.mv ?_
  refine TL.p Pu.no ?_
  refine TL.nil ?_
  refine TQ.thenN (hY1 _ _ ?_)
  refine TW.cond rfl (fun hc0 => ?_) (fun hc0 => ?_)
  · try simp only [decide_eq_true_eq, decide_eq_false_iff_not, Bool.not_eq_true', Bool.not_eq_false', Bool.and_eq_true, Bool.or_eq_true, Bool.and_eq_false_iff, Bool.or_eq_false_iff, Int.not_lt, Int.not_le] at hc0
    have hb : b = false := by simpa using hc0
    refine TW.region ?_
    refine TL.p Pu.mv ?_
    refine TL.p Pu.fc ?_
    refine TL.pn rfl (by intro w; first | (go_simp; done) | (go_simp; rfl)) ?_
    refine TQ.pan rfl ?_
    exact fun w hw => by subst hb; exact Try.no (L := []) (by simp [he]) hw
  · try simp only [decide_eq_true_eq, decide_eq_false_iff_not, Bool.not_eq_true', Bool.not_eq_false', Bool.and_eq_true, Bool.or_eq_true, Bool.and_eq_false_iff, Bool.or_eq_false_iff, Int.not_lt, Int.not_le] at hc0
    refine TW.skip ?_
    refine TQ.end Tryz.results76 rfl (.nil) ?_
    exact fun w hw => by
      have hb : b = true := by simpa using hc0
      subst hb
      exact Try.ok (L := []) rfl hw
theorem all_any {a : Nat → Option Addr} {l c : Nat → Nat} {v : Nat → Nat → Int} {w : World} (ht : tot l 3 ≤ 1000000000) (hI : ∀ i, i < 3 → RdR w 1 (a i) (l i) (fun k => [.int .i64 (v i k)])) :
    CallsK Tryz.prog 72 #[.agg (tieL a l c).toArray] [] w (Option Addr × Nat) (fun x => .slice x.1 (tot l 3) x.2) (fun x => [.own x.1 (tot l 3) x.2 3 1 (catN l (fun i k => [.int .i64 (v i k)]) 3)]) := by
  refine K_enter (S := []) (K := []) Tryz.func72 rfl Tryz.ntmps72 rfl (Sat.start _) ?_
  refine TW.seq fun Y1 hY1 => ?_
  refine TW.region ?_
  refine TL.m Mk.bx ?_
  intro b1
  refine TL.p Pu.as ?_
  refine TL.nil ?_
  refine TQ.thenN (hY1 _ _ ?_)
  refine TW.seq fun Y2 hY2 => ?_
  refine TW.region ?_
  refine TL.p (by first | exact Pu.fb ty_fa36_0 | exact Pu.fe ty_fa36_0) ?_
  refine TL.p (Pu.ld ty_sc24) ?_
  refine TL.p (by first | exact Pu.fb ty_fa36_1 | exact Pu.fe ty_fa36_1) ?_
  refine TL.p (Pu.ld ty_sc24) ?_
  refine TL.p (by first | exact Pu.fb ty_fa36_2 | exact Pu.fe ty_fa36_2) ?_
  refine TL.p (Pu.ld ty_sc24) ?_
  refine TL.m Mk.bl ?_
  intro b2
  refine TL.call (M := []) rfl (enters Tryz.func94 rfl rfl) (List.Perm.refl _) rfl (fun w hw => by
      have hB : Blk w b2 _ (tieL a l c).toArray := hw.holds _ (List.mem_cons_self ..)
      exact concat_any (a := a) (l := l) (c := c) (v := v) (by decide) ht (RdR.blk (n := 3) (cs := tieL a l c) hB rfl (fun i _ => rfl)) (fun i hi => (hI i hi).sat hw Apart.nil)) ?_
  intro x
  refine TL.p Pu.as ?_
  refine TL.nil ?_
  refine TQ.thenN (hY2 _ _ ?_)
  refine TW.ret ?_
  refine TQ.ret Tryz.results72 rfl ((.tmp rfl .nil)) ?_
  exact fun w hw => ⟨x, rfl, hw.sub (KSub.cons Pick.hd KSub.nil)⟩
theorem lists_any (a : Nat → Option Addr) (l c : Nat → Nat) (w : World) :
    Calls Tryz.prog 85 #[.agg (tieL a l c).toArray] w (Ret w (.agg (tieL a l c).toArray)) := by
  refine K_enter (S := []) (K := []) Tryz.func85 rfl Tryz.ntmps85 rfl (Sat.start _) ?_
  refine TW.seq fun Y1 hY1 => ?_
  refine TW.region ?_
  refine TL.m Mk.bx ?_
  intro b1
  refine TL.m (Mk.al ty_zr64) ?_
  intro b2
  refine TL.nil ?_
  refine TQ.thenN (hY1 _ _ ?_)
  refine TW.seq fun Y2 hY2 => ?_
  refine TW.region ?_
  refine TL.p (by first | exact Pu.fb ty_fa36_0 | exact Pu.fe ty_fa36_0) ?_
  refine TL.p (Pu.ld ty_sc24) ?_
  refine TL.p (by first | exact Pu.fb ty_fa36_1 | exact Pu.fe ty_fa36_1) ?_
  refine TL.p (Pu.ld ty_sc24) ?_
  refine TL.p (by first | exact Pu.fb ty_fa36_2 | exact Pu.fe ty_fa36_2) ?_
  refine TL.p (Pu.ld ty_sc24) ?_
  refine TL.p Pu.bd ?_
  first | refine TL.st ty_sz64 ?_ | refine TL.se ty_sz64 ?_
  refine TL.nil ?_
  refine TQ.thenN (hY2 _ _ ?_)
  refine TW.ret ?_
  refine TQ.ret Tryz.results85 rfl ((RV.cs ty_ag64 .nil)) ?_
  exact fun w hw => Ret.of hw
def lastV (v : Nat → Int) : Nat → Int
  | 0 => -1
  | k + 1 => v k
def riseP (v : Nat → Int) (N : Int) (k : Nat) : Bool := inB5 (lastV v k + 1) (N - 1) (v k)
theorem rise_lo {v : Nat → Int} {N : Int} (h3 : 0 ≤ N) : ∀ k, (∀ j, j < k → riseP v N j = true) → -1 ≤ lastV v k ∧ lastV v k ≤ N - 1
  | 0, _ => by simp only [lastV]; omega
  | k + 1, h => by
    have h1 := rise_lo h3 k fun j hj => h j (by omega)
    have h2 := h k (by omega)
    simp only [riseP, inB5, Bool.and_eq_true, decide_eq_true_eq] at h2
    simp only [lastV]
    omega
theorem rising1_any (x last N : Int) (bl bn : Nat) (w : World) (hM : Sat [bl] w [.blk bl 3 [.int .i64 last]] w) (hn : OldB w bn [.int .i64 N]) (hne : bn ≠ bl) (h1 : -1 ≤ last) (h2 : last ≤ 1000000000) (h3 : 0 ≤ N) (h4 : N ≤ 1000000000000) :
    CallsK Tryz.prog 125 #[.int .i64 x, .pointer (some ⟨bl, 0, none⟩), .pointer (some ⟨bn, 0, none⟩)] [.blk bl 3 [.int .i64 last]] w Unit (fun _ => .bool (inB5 (last + 1) (N - 1) x)) (fun _ => [.blk bl 3 [.int .i64 x]]) := by
  have hAp : Apart [bl] (some ⟨bn, 0, none⟩) := fun q hq => by cases hq; simpa using hne
  refine K_enter (args := [.int .i64 x, .pointer (some ⟨bl, 0, none⟩), .pointer (some ⟨bn, 0, none⟩)]) (S := [bl]) (K := [.blk bl 3 [.int .i64 last]]) Tryz.func125 rfl Tryz.ntmps125 rfl hM ?_
  refine TW.seq fun Y1 hY1 => ?_
  refine TW.region ?_
  refine TL.p Pu.as ?_
  refine TL.nil ?_
  refine TQ.thenN (hY1 _ _ ?_)
  refine TW.seq fun Y2 hY2 => ?_
  refine TW.region ?_
  refine TL.p (by first | exact (Pu.ld ty_sc3) | exact (Pu.ldo ty_sc3)) ?_
  refine TL.p Pu.ad ?_
  refine TL.p (by first | exact (Pu.ld ty_sc3) | exact (Pu.ldo ty_sc3)) ?_
  refine TL.p Pu.sb ?_
  refine TL.p Pu.mv ?_
  refine TL.m Mk.bl ?_
  intro b1
  refine TL.cr rfl (enters Tryz.func78 rfl rfl) (fun w hw => by
      exact inOne_any _ _ _ (hw.holds _ (List.mem_cons_self ..))) ?_
  refine TL.p Pu.as ?_
  refine TL.nil ?_
  refine TQ.thenN (hY2 _ _ ?_)
  refine TW.seq fun Y3 hY3 => ?_
  refine TW.region ?_
  refine TL.p Pu.mv ?_
  first | refine TL.st ty_sz3 ?_ | refine TL.se ty_sz3 ?_
  refine TL.nil ?_
  refine TQ.thenN (hY3 _ _ ?_)
  refine TW.seq fun Y4 hY4 => ?_
  refine TW.region ?_
  refine TL.p Pu.mv ?_
  refine TL.p Pu.as ?_
  refine TL.nil ?_
  refine TQ.thenN (hY4 _ _ ?_)
  refine TW.ret ?_
  refine TQ.ret Tryz.results125 rfl ((.tmp rfl .nil)) ?_
  exact fun w hw => ⟨(), rfl, hw.sub (KSub.cons Pick.hd KSub.nil)⟩
theorem rising_any {A : Option Addr} {n cp : Nat} {v : Nat → Int} {N : Int} {w : World} (hn : n ≤ 9223372036854775807) (hR : RdR w 1 A n (fun k => [.int .i64 (v k)])) (h3 : 0 ≤ N) (h4 : N ≤ 1000000000) :
    Calls Tryz.prog 88 #[.slice A n cp, .int .i64 N] w (Ret w (.bool (allB n (riseP v N)))) := by
  refine K_enter (S := []) (K := []) Tryz.func88 rfl Tryz.ntmps88 rfl (Sat.start _) ?_
  refine TW.seq fun Y1 hY1 => ?_
  refine TW.region ?_
  refine TL.m Mk.bx ?_
  intro b1
  refine TL.p Pu.as ?_
  refine TL.nil ?_
  refine TQ.thenN (hY1 _ _ ?_)
  refine TW.seq fun Y2 hY2 => ?_
  refine TW.region ?_
  refine TL.m (Mk.al ty_zr3) ?_
  intro b2
  first | refine TL.st ty_sz3 ?_ | refine TL.se ty_sz3 ?_
  refine TL.nil ?_
  refine TQ.thenN (hY2 _ _ ?_)
  refine TW.seq fun Y3 hY3 => ?_
  refine TW.region ?_
  refine TL.p Pu.mv ?_
  refine TL.p Pu.fn ?_
  refine TL.call rfl (enters Tryz.func124 rfl rfl) (List.Perm.refl _) rfl (fun w hw => by
      have hw2 : Sat [] _ [.blk b2 3 [.int .i64 (-1)]] w := hw.sub (KSub.cons Pick.hd KSub.nil)
      have hB : Blk w b1 3 #[.int .i64 N] := hw.holds (.blk b1 3 [.int .i64 N]) (by simp)
      have hne : b1 ≠ b2 := fun e => by
        have := hw.nd
        simp [feet, Fact.foot, e] at this
      refine everyInt_st (p := riseP v N) (M := fun k => [.blk b2 3 [.int .i64 (lastV v k)]]) (fs := []) (cs := [.pointer (some ⟨b2, 0, none⟩), .pointer (some ⟨b1, 0, none⟩)]) (enters Tryz.func125 rfl rfl) hn (hR.sat hw Apart.nil) (hR.apart fun q hq => (hw2.ge q hq).resolve_left (by simp)) hw2.self (fun _ => rfl) (fun k hk hp w' hw' => ?_)
      · have hlo := rise_lo (N := N) h3 k hp
        refine rising1_any _ _ _ b2 b1 w' hw'.self ((OldB.of_blk (cs := [_]) hB).sat hw' (by simp [feet, Fact.foot, hne])) hne (by omega) (by omega) h3 (by omega)) ?_
  intro x
  refine TL.p Pu.as ?_
  refine TL.nil ?_
  refine TQ.thenN (hY3 _ _ ?_)
  refine TW.ret ?_
  refine TQ.ret Tryz.results88 rfl ((.tmp rfl .nil)) ?_
  exact fun w hw => ⟨ret_bool (by rw [x.any]; show allB n (riseP v N) = !anyB n _; rw [not_anyB]; simp), Chg.ext hw.chg⟩
end Go.Proofs.YtjephihlkjpohaaGreatDoor
namespace Go.Proofs.YtjephihlkjpohaaGreatDoor
set_option linter.all false
set_option linter.unusedVariables false
set_option linter.unusedSimpArgs false
open Go.RowKit
theorem everyPack_any {g : FuncId} {fs cs : List Value} {A : Option Addr} {n cp : Nat} {v : Nat → Nat → Int} {p : Nat → Bool} {w : World} (hen : Enters Tryz.prog g) (hn : n ≤ 9223372036854775807)
    (hR : RdR w 11 A n (fun k => packL (v k))) (hg : ∀ k, k < n → ∀ w', Below w.heap.size w w' → Calls Tryz.prog g (fs ++ [Value.agg (packL (v k)).toArray] ++ cs).toArray w' (Ret w' (.bool (p k)))) :
    Calls Tryz.prog 86 #[.slice A n cp, .func (.func g) fs.toArray cs.toArray] w (Ret w (.bool (allB n p))) :=
  CallsK.retOf (everyPack_st (M := fun _ => []) hen hn hR (fun _ => Apart.nil) (Sat.start w) (fun _ => rfl) fun k hk _ w' hw' => CallsK.ret (hg k hk w' (Chg.ext hw'.chg))) fun x => by
    rw [x.any]
    show Value.bool (!anyB n fun k => !p k) = _
    rw [not_anyB]
    simp
def lst (l : Nat → Nat) (v : Nat → Nat → Int) (j : Nat) : List Int := (List.range (l j)).map (v j)
def lsts (l : Nat → Nat) (v : Nat → Nat → Int) : Nat → List Int
  | 0 => []
  | j + 1 => lsts l v j ++ lst l v j
def held (l : Nat → Nat → Nat) (v : Nat → Nat → Nat → Int) : Nat → List Int
  | 0 => []
  | i + 1 => held l v i ++ lsts (l i) (v i) 3
theorem lsts_length (l : Nat → Nat) (v : Nat → Nat → Int) : ∀ j, (lsts l v j).length = tot l j
  | 0 => rfl
  | j + 1 => by simp [lsts, tot, lst, lsts_length l v j]
def markAll (xs : List Int) : List (Int × Value) := xs.foldl (fun m x => mput x (.bool true) m) []
theorem markAll_snoc (xs : List Int) (x : Int) : markAll (xs ++ [x]) = mput x (.bool true) (markAll xs) := by simp [markAll]
def tieOk (np : Nat) (l : Nat → Nat) (v : Nat → Nat → Int) : Bool := allB 3 (fun j => allB (l j) (riseP (v j) np)) && decide (tot l 3 ≤ 10)
def packsOk (np : Nat) (pk : Nat → Nat → Int) : Bool := decide ((np : Int) ≤ 30) && allB np fun k => packOk (pk k)
def tiesOk (np m : Nat) (l : Nat → Nat → Nat) (v : Nat → Nat → Nat → Int) : Bool := allB m (fun i => tieOk np (l i) (v i)) && (decide ((m : Int) ≤ 8) && decide (((markAll (held l v m)).length : Int) = ((held l v m).length : Int)))
def checkV (np : Nat) (pk : Nat → Nat → Int) (m : Nat) (l : Nat → Nat → Nat) (v : Nat → Nat → Nat → Int) : Int := if packsOk np pk then (if tiesOk np m l v then 0 else 51) else 50
theorem Try.bad {w w' : World} {code code' : Int} {v : Value} {S : List Nat} {L : List Fact} (e : code' ≠ 0) (h : code = code') (hS : S = []) (hs : Sat S w L w') : Try w errs code v (.panicked (errs code')) w' := by
  subst h hS
  exact Try.no e hs
theorem need_no {b : Bool} {e : Int} (h : (if b then (0 : Int) else e) ≠ 0) : b = false ∧ (if b then (0 : Int) else e) = e := by
  cases b with
  | true => exact absurd rfl h
  | false => exact ⟨rfl, rfl⟩
theorem need_yes {b : Bool} {e : Int} (he : e ≠ 0) (h : (if b then (0 : Int) else e) = 0) : b = true := by
  cases b with
  | true => rfl
  | false => exact absurd h he
section
variable {np m i j : Nat} {pk : Nat → Nat → Int} {l : Nat → Nat → Nat} {v : Nat → Nat → Nat → Int} {w w' : World} {L : List Fact}
theorem check_p1 (h : (if (decide ((np : Int) ≤ 30) && allB np fun k => packOk (pk k)) then (0 : Int) else 50) ≠ 0) (hw : Sat [] w L w') : Try w errs (checkV np pk m l v) (.tuple #[]) (.panicked (errs (if (decide ((np : Int) ≤ 30) && allB np fun k => packOk (pk k)) then (0 : Int) else 50))) w' := by
  obtain ⟨h1, h2⟩ := need_no h
  have h3 : packsOk np pk = false := h1
  exact Try.bad h (by unfold checkV; rw [h2, h3]; rfl) rfl hw
theorem check_p {b : Bool} (hp : packsOk np pk = true) (h : (if b then (0 : Int) else 51) ≠ 0) (ht : b = false → tiesOk np m l v = false) (hw : Sat [] w L w') : Try w errs (checkV np pk m l v) (.tuple #[]) (.panicked (errs (if b then (0 : Int) else 51))) w' := by
  obtain ⟨h1, h2⟩ := need_no h
  exact Try.bad h (by unfold checkV; rw [h2, hp, ht h1]; rfl) rfl hw
theorem ties_no (hi : i < m) (h : tieOk np (l i) (v i) = false) : tiesOk np m l v = false := by
  cases hb : allB m (fun i => tieOk np (l i) (v i)) with
  | false => unfold tiesOk; rw [hb]; rfl
  | true =>
    have := allB_iff.1 hb i hi
    rw [h] at this
    cases this
theorem ties_no2 (hi : i < m) (hj : j < 3) (h : allB (l i j) (riseP (v i j) np) = false) : tiesOk np m l v = false := by
  refine ties_no hi ?_
  cases hb : allB 3 (fun j => allB (l i j) (riseP (v i j) np)) with
  | false => unfold tieOk; rw [hb]; rfl
  | true =>
    have := allB_iff.1 hb j hj
    rw [h] at this
    cases this
theorem ties_no3 (hi : i < m) (h : decide ((tot (l i) 3 : Int) ≤ 10) = false) : tiesOk np m l v = false := by
  refine ties_no hi ?_
  have h' : ¬ (tot (l i) 3 : Int) ≤ 10 := by simpa using h
  have h'' : decide (tot (l i) 3 ≤ 10) = false := by simp; omega
  unfold tieOk
  rw [h'', Bool.and_false]
end
set_option maxRecDepth 100000 in
theorem index_tie (a : Nat → Option Addr) (l c : Nat → Nat) (j : Nat) (hj : j < 3) (w : World) : (Instr.index 64 (.agg (tieL a l c).toArray) (.int .i64 (j : Int))).run Tryz.prog w = .ok (.slice (a j) (l j) (c j)) w := by
  have h : j = 0 ∨ j = 1 ∨ j = 2 := by omega
  rcases h with rfl | rfl | rfl
  · unfold tieL; go_simp; rfl
  · unfold tieL; go_simp; rfl
  · unfold tieL; go_simp; rfl
set_option maxRecDepth 100000 in
theorem check_any {A A2 : Option Addr} {np cp m cp2 : Nat} {pk : Nat → Nat → Int} {a : Nat → Nat → Option Addr} {l c : Nat → Nat → Nat} {v : Nat → Nat → Nat → Int} {w : World} (hG : None0 w) (hnp : np ≤ 1000000000) (hm : m ≤ 1000)
    (hR : RdR w 11 A np (fun k => packL (pk k))) (hT : RdR w 3 A2 m (fun i => tieL (a i) (l i) (c i))) (hI : ∀ i, i < m → ∀ j, j < 3 → RdR w 1 (a i j) (l i j) (fun k => [.int .i64 (v i j k)])) (hL : ∀ i, i < m → tot (l i) 3 ≤ 1000) :
    Calls Tryz.prog 47 #[.slice A np cp, .slice A2 m cp2] w (Try w errs (checkV np pk m l v) (.tuple #[])) := by
  refine K_enter (S := []) (K := []) Tryz.func47 rfl Tryz.ntmps47 rfl (Sat.start _) ?_
  refine TW.seq fun Y1 hY1 => ?_
  refine TW.region ?_
  refine TL.p Pu.mv ?_
  refine TL.p (Pu.ln Tryz.underlying22) ?_
  refine TL.p Pu.le ?_
  refine TL.p Pu.mv ?_
  refine TL.mid 7 [(18, .bool (decide ((np : Int) ≤ 30) && allB np fun k => packOk (pk k)))] ?_ (fun hM1 => ?_)
  · simp only [List.toList_toArray, List.drop_succ_cons, List.drop_zero]
    refine TL.ct rfl (enters Tryz.func76 rfl rfl) (fun w hw => by
        exact need_any _ _ _ (by decide)) (fun hp1 => ?_) (fun hp1 => ?_)
    rotate_left
    · refine TQ.thenP ?_
      refine TQ.pan rfl ?_
      first
        | exact fun w hw => check_p1 hp1 hw
        | exact fun w hw => check_p hp1 hp2 (fun h => ties_no2 him hj3 h) hw
        | exact fun w hw => check_p hp1 hp3 (fun h => ties_no3 him h) hw
        | exact fun w hw => check_p hp1 hp4 (fun h => by unfold tiesOk; rw [← hz, h, Bool.and_false]) hw
    refine TL.nil ?_
    refine TQ.thenN (hY1 _ _ ?_)
    refine TW.seq fun Y2 hY2 => ?_
    refine TW.region ?_
    refine TL.mm (kk := .i64) ?_
    intro b1
    refine TL.p Pu.as ?_
    refine TL.nil ?_
    refine TQ.thenN (hY2 _ _ ?_)
    refine TW.seq fun Y3 hY3 => ?_
    refine TW.region ?_
    refine TL.p Pu.as ?_
    refine TL.nil ?_
    refine TQ.thenN (hY3 _ _ ?_)
    refine TW.seq fun Y4 hY4 => ?_
    refine TW.seq fun Y5 hY5 => ?_
    refine TW.region ?_
    refine TL.p Pu.mv ?_
    refine TL.p (Pu.ln Tryz.underlying23) ?_
    refine TL.p Pu.mv ?_
    refine TL.nil ?_
    refine TQ.thenN (hY5 _ _ ?_)
    refine TW.block ?_
    have hp1 : packsOk np pk = true := by
      exact need_yes (by decide) hp1
    have hnp30 : np ≤ 30 := by
      simp only [packsOk, Bool.and_eq_true, decide_eq_true_eq] at hp1
      omega
    refine TW.loop2 (fun (i : Nat) (z : Int) => [(23, .int .i64 (i : Int)), (22, .int .i64 (m : Int)), (21, .slice A2 m cp2), (0, .slice A np cp), (1, .slice A2 m cp2), (4, .map (some b1)), (5, .int .i64 z)]) (fun i z => [.obj b1 (mapO .i64 (markAll (held l v i)))]) (fun i z => i ≤ m ∧ z = ((held l v i).length : Int) ∧ z ≤ 1000 * i ∧ ∀ i', i' < i → tieOk np (l i') (v i') = true) (fun i z => m - i) 0 _ (by repeat (first | exact trivial | refine ⟨rfl, ?_⟩ | refine ⟨trivial, ?_⟩)) ?_ ?_ ?_
    · exact (by repeat (first | exact KSub.nil | refine KSub.cons (by repeat (first | exact Pick.hd | apply Pick.tl)) ?_))
    · exact ⟨by omega, rfl, by decide, fun i' h => by omega⟩
    rintro i z ⟨hi, hz, hzb, hoks⟩ Z0 hZ0
    refine TW.seq fun Y6 hY6 => ?_
    refine TW.region ?_
    refine TL.p Pu.lt ?_
    refine TL.nil ?_
    refine TQ.thenN (hY6 _ _ ?_)
    refine TW.seq fun Y7 hY7 => ?_
    refine TW.cond rfl (fun hc0 => ?_) (fun hc0 => ?_)
    · try simp only [decide_eq_true_eq, decide_eq_false_iff_not, Bool.not_eq_true', Bool.not_eq_false', Bool.and_eq_true, Bool.or_eq_true, Bool.and_eq_false_iff, Bool.or_eq_false_iff, Int.not_lt, Int.not_le] at hc0
      have him : i < m := by omega
      have hLi := hL i him
      have hIi := hI i him
      refine TW.skip ?_
      refine TQ.thenN (hY7 _ _ ?_)
      refine TW.seq fun Y8 hY8 => ?_
      refine TW.block ?_
      refine TW.seq fun Y9 hY9 => ?_
      refine TW.region ?_
      refine TL.p (Pu.el ty_et23) ?_
      refine TL.p (Pu.lds ty_ag36) ?_
      refine TL.m (Mk.al ty_zr36) ?_
      intro b2
      first | refine TL.st ty_sz36 ?_ | refine TL.se ty_sz36 ?_
      refine TL.nil ?_
      refine TQ.thenN (hY9 _ _ ?_)
      refine TW.seq fun Y10 hY10 => ?_
      refine TW.seq fun Y11 hY11 => ?_
      refine TW.region ?_
      refine TL.p (Pu.lds ty_ag36) ?_
      refine TL.cr rfl (enters Tryz.func85 rfl rfl) (fun w hw => by
          exact lists_any _ _ _ _) ?_
      refine TL.p Pu.mv ?_
      refine TL.nil ?_
      refine TQ.thenN (hY11 _ _ ?_)
      refine TW.block ?_
      refine TW.loop2 (fun (j : Nat) (y : Int) => [(29, .int .i64 (j : Int)), (28, .agg (tieL (a i) (l i) (c i)).toArray), (7, .pointer (some ⟨b2, 0, none⟩)), (23, .int .i64 (i : Int)), (22, .int .i64 (m : Int)), (21, .slice A2 m cp2), (0, .slice A np cp), (1, .slice A2 m cp2), (4, .map (some b1)), (5, .int .i64 y)]) (fun j y => [.obj b1 (mapO .i64 (markAll (held l v i ++ lsts (l i) (v i) j))), .blk b2 36 (tieL (a i) (l i) (c i))]) (fun j y => j ≤ 3 ∧ y = z + (tot (l i) j : Int) ∧ ∀ j', j' < j → allB (l i j') (riseP (v i j') np) = true) (fun j y => 3 - j) 0 _ (by repeat (first | exact trivial | refine ⟨rfl, ?_⟩ | refine ⟨trivial, ?_⟩)) ?_ ?_ ?_
      · simp only [lsts, List.append_nil]
        exact KSub.cons (by repeat (first | exact Pick.hd | apply Pick.tl)) (KSub.cons (by repeat (first | exact Pick.hd | apply Pick.tl)) KSub.nil)
      · exact ⟨by omega, by simp [tot], fun j' h => by omega⟩
      rintro j y ⟨hj, hy, hrs⟩ Z1 hZ1
      refine TW.seq fun Y12 hY12 => ?_
      refine TW.region ?_
      refine TL.p Pu.lt ?_
      refine TL.nil ?_
      refine TQ.thenN (hY12 _ _ ?_)
      refine TW.seq fun Y13 hY13 => ?_
      refine TW.cond rfl (fun hc1 => ?_) (fun hc1 => ?_)
      · try simp only [decide_eq_true_eq, decide_eq_false_iff_not, Bool.not_eq_true', Bool.not_eq_false', Bool.and_eq_true, Bool.or_eq_true, Bool.and_eq_false_iff, Bool.or_eq_false_iff, Int.not_lt, Int.not_le] at hc1
        have hj3 : j < 3 := by omega
        have hIj := hIi j hj3
        have htj : tot (l i) j + l i j ≤ tot (l i) 3 := tot_mono (l := l i) (show j + 1 ≤ 3 by omega)
        refine TW.skip ?_
        refine TQ.thenN (hY13 _ _ ?_)
        refine TW.seq fun Y14 hY14 => ?_
        refine TW.block ?_
        refine TW.seq fun Y15 hY15 => ?_
        refine TW.region ?_
        refine TL.p (Pu.ix rfl rfl (fun w => index_tie _ _ _ j (by omega) w)) ?_
        refine TL.p Pu.as ?_
        refine TL.nil ?_
        refine TQ.thenN (hY15 _ _ ?_)
        refine TW.seq fun Y16 hY16 => ?_
        refine TW.region ?_
        refine TL.p Pu.mv ?_
        refine TL.p Pu.mv ?_
        refine TL.p (Pu.ln Tryz.underlying22) ?_
        refine TL.cr rfl (enters Tryz.func88 rfl rfl) (fun w hw => by
            exact rising_any (v := v i j) (by omega) (hIj.sat hw Apart.nil) (by omega) (by omega)) ?_
        refine TL.ct rfl (enters Tryz.func76 rfl rfl) (fun w hw => by
            exact need_any _ _ _ (by decide)) (fun hp2 => ?_) (fun hp2 => ?_)
        rotate_left
        · refine TQ.thenP ?_
          refine TQ.blkP ?_
          refine TQ.thenP ?_
          refine TQ.thenP ?_
          refine TQ.blkP ?_
          refine TQ.thenP ?_
          refine TQ.blkP ?_
          refine TQ.thenP ?_
          refine TQ.thenP ?_
          refine TQ.blkP ?_
          refine TQ.thenP ?_
          refine TQ.pan rfl ?_
          first
            | exact fun w hw => check_p1 hp1 hw
            | exact fun w hw => check_p hp1 hp2 (fun h => ties_no2 him hj3 h) hw
            | exact fun w hw => check_p hp1 hp3 (fun h => ties_no3 him h) hw
            | exact fun w hw => check_p hp1 hp4 (fun h => by unfold tiesOk; rw [← hz, h, Bool.and_false]) hw
        refine TL.nil ?_
        refine TQ.thenN (hY16 _ _ ?_)
        refine TW.seq fun Y17 hY17 => ?_
        refine TW.seq fun Y18 hY18 => ?_
        refine TW.region ?_
        refine TL.p Pu.mv ?_
        refine TL.p (Pu.ln Tryz.underlying24) ?_
        refine TL.p Pu.mv ?_
        refine TL.nil ?_
        refine TQ.thenN (hY18 _ _ ?_)
        refine TW.block ?_
        have hrise : allB (l i j) (riseP (v i j) np) = true := by
          cases h : allB (l i j) (riseP (v i j) np) with
          | true => rfl
          | false => rw [h] at hp2; exact absurd hp2 (by decide)
        refine TW.loop1 (fun (k : Nat) => [(39, .int .i64 (k : Int)), (38, .int .i64 (l i j : Int)), (37, .slice (a i j) (l i j) (c i j)), (9, .slice (a i j) (l i j) (c i j)), (29, .int .i64 (j : Int)), (28, .agg (tieL (a i) (l i) (c i)).toArray), (7, .pointer (some ⟨b2, 0, none⟩)), (23, .int .i64 (i : Int)), (22, .int .i64 (m : Int)), (21, .slice A2 m cp2), (0, .slice A np cp), (1, .slice A2 m cp2), (4, .map (some b1)), (5, .int .i64 y)]) (fun k => [.obj b1 (mapO .i64 (markAll (held l v i ++ lsts (l i) (v i) j ++ (List.range k).map (v i j)))), .blk b2 36 (tieL (a i) (l i) (c i))]) (fun k => k ≤ l i j) (fun k => l i j - k) 0 (by repeat (first | exact trivial | refine ⟨rfl, ?_⟩ | refine ⟨trivial, ?_⟩)) ?_ ?_ ?_
        · simp only [List.range_zero, List.map_nil, List.append_nil]
          exact KSub.cons (by repeat (first | exact Pick.hd | apply Pick.tl)) (KSub.cons (by repeat (first | exact Pick.hd | apply Pick.tl)) KSub.nil)
        · exact Nat.zero_le _
        rintro k hk Z2 hZ2
        refine TW.seq fun Y19 hY19 => ?_
        refine TW.region ?_
        refine TL.p Pu.lt ?_
        refine TL.nil ?_
        refine TQ.thenN (hY19 _ _ ?_)
        refine TW.seq fun Y20 hY20 => ?_
        refine TW.cond rfl (fun hc2 => ?_) (fun hc2 => ?_)
        · try simp only [decide_eq_true_eq, decide_eq_false_iff_not, Bool.not_eq_true', Bool.not_eq_false', Bool.and_eq_true, Bool.or_eq_true, Bool.and_eq_false_iff, Bool.or_eq_false_iff, Int.not_lt, Int.not_le] at hc2
          refine TW.skip ?_
          refine TQ.thenN (hY20 _ _ ?_)
          refine TW.seq fun Y21 hY21 => ?_
          refine TW.block ?_
          refine TW.seq fun Y22 hY22 => ?_
          refine TW.region ?_
          refine TL.p (Pu.el ty_et24) ?_
          refine TL.p (Pu.ld ty_sc3) ?_
          refine TL.p Pu.as ?_
          refine TL.nil ?_
          refine TQ.thenN (hY22 _ _ ?_)
          refine TW.region ?_
          refine TL.p Pu.mv ?_
          refine TL.p Pu.mv ?_
          refine TL.mu ty_mp151 ?_
          refine TL.nil ?_
          refine TQ.blkN ?_
          refine TQ.thenN (hY21 _ _ ?_)
          refine TW.region ?_
          refine TL.p Pu.ad ?_
          refine TL.p Pu.mv ?_
          refine TL.nil ?_
          refine TQ.thenN (hZ2 (k + 1) _ _ ?_ ?_ (by repeat (first | exact trivial | refine ⟨rfl, ?_⟩ | refine ⟨trivial, ?_⟩)) ?_)
          · exact (by omega)
          · exact (by first | omega | (simp only []; omega) | (simp; omega))
          · rw [List.range_succ, List.map_append, ← List.append_assoc, show [k].map (v i j) = [v i j k] from rfl, markAll_snoc]
            exact KSub.cons (by repeat (first | exact Pick.hd | apply Pick.tl)) (KSub.cons (by repeat (first | exact Pick.hd | apply Pick.tl)) KSub.nil)
        · try simp only [decide_eq_true_eq, decide_eq_false_iff_not, Bool.not_eq_true', Bool.not_eq_false', Bool.and_eq_true, Bool.or_eq_true, Bool.and_eq_false_iff, Bool.or_eq_false_iff, Int.not_lt, Int.not_le] at hc2
          have hke : k = l i j := by omega
          refine TW.exit ?_
          refine TQ.thenX ?_
          refine TQ.thenX ?_
          refine TQ.blkX ?_
          refine TQ.thenN (hY17 _ _ ?_)
          refine TW.region ?_
          refine TL.p Pu.mv ?_
          refine TL.p Pu.mv ?_
          refine TL.p (Pu.ln Tryz.underlying24) ?_
          refine TL.p Pu.ad ?_
          refine TL.p Pu.as ?_
          refine TL.nil ?_
          refine TQ.blkN ?_
          refine TQ.thenN (hY14 _ _ ?_)
          refine TW.region ?_
          refine TL.p Pu.ad ?_
          refine TL.p Pu.mv ?_
          refine TL.nil ?_
          subst hke
          refine TQ.thenN (hZ1 (j + 1) _ _ _ ?_ ?_ (by repeat (first | exact trivial | refine ⟨rfl, ?_⟩ | refine ⟨trivial, ?_⟩)) ?_)
          · refine ⟨by omega, by simp only [tot]; omega, fun j' h => ?_⟩
            by_cases he : j' = j
            · subst he; exact hrise
            · exact hrs j' (by omega)
          · exact (by first | omega | (simp only []; omega) | (simp; omega))
          · rw [lsts, ← List.append_assoc]
            exact KSub.cons (by repeat (first | exact Pick.hd | apply Pick.tl)) (KSub.cons (by repeat (first | exact Pick.hd | apply Pick.tl)) KSub.nil)
      · try simp only [decide_eq_true_eq, decide_eq_false_iff_not, Bool.not_eq_true', Bool.not_eq_false', Bool.and_eq_true, Bool.or_eq_true, Bool.and_eq_false_iff, Bool.or_eq_false_iff, Int.not_lt, Int.not_le] at hc1
        obtain rfl : j = 3 := by omega
        refine TW.exit ?_
        refine TQ.thenX ?_
        refine TQ.thenX ?_
        refine TQ.blkX ?_
        refine TQ.thenN (hY10 _ _ ?_)
        refine TW.region ?_
        refine TL.p (Pu.lds ty_ag36) ?_
        refine TL.call (M := []) rfl (enters Tryz.func72 rfl rfl) (List.Perm.refl _) rfl (fun w hw => by
            exact all_any (v := v i) (by omega) (fun j hj => (hIi j hj).sat hw Apart.nil)) ?_
        rintro ⟨Aq, cq⟩
        refine TL.p (Pu.ln Tryz.underlying24) ?_
        refine TL.p Pu.le ?_
        refine TL.ct rfl (enters Tryz.func76 rfl rfl) (fun w hw => by
            exact need_any _ _ _ (by decide)) (fun hp3 => ?_) (fun hp3 => ?_)
        rotate_left
        · refine TQ.blkP ?_
          refine TQ.thenP ?_
          refine TQ.thenP ?_
          refine TQ.blkP ?_
          refine TQ.thenP ?_
          refine TQ.pan rfl ?_
          first
            | exact fun w hw => check_p1 hp1 hw
            | exact fun w hw => check_p hp1 hp2 (fun h => ties_no2 him hj3 h) hw
            | exact fun w hw => check_p hp1 hp3 (fun h => ties_no3 him h) hw
            | exact fun w hw => check_p hp1 hp4 (fun h => by unfold tiesOk; rw [← hz, h, Bool.and_false]) hw
        refine TL.nil ?_
        refine TQ.blkN ?_
        refine TQ.thenN (hY8 _ _ ?_)
        refine TW.region ?_
        refine TL.p Pu.ad ?_
        refine TL.p Pu.mv ?_
        refine TL.nil ?_
        have ht10 : tot (l i) 3 ≤ 10 := by
          by_cases h : tot (l i) 3 ≤ 10
          · exact h
          · exfalso; simp [show ¬ ((tot (l i) 3 : Int) ≤ 10) by omega] at hp3
        refine TQ.thenN (hZ0 (i + 1) _ _ _ ?_ ?_ (by repeat (first | exact trivial | refine ⟨rfl, ?_⟩ | refine ⟨trivial, ?_⟩)) ?_)
        · refine ⟨by omega, ?_, by omega, fun i' h => ?_⟩
          · rw [held, List.length_append, lsts_length]; omega
          · by_cases he : i' = i
            · subst he
              simp only [tieOk, Bool.and_eq_true, decide_eq_true_eq]
              exact ⟨allB_iff.2 hrs, ht10⟩
            · exact hoks i' (by omega)
        · exact (by first | omega | (simp only []; omega) | (simp; omega))
        · rw [held]
          exact KSub.cons (by repeat (first | exact Pick.hd | apply Pick.tl)) KSub.nil
    · try simp only [decide_eq_true_eq, decide_eq_false_iff_not, Bool.not_eq_true', Bool.not_eq_false', Bool.and_eq_true, Bool.or_eq_true, Bool.and_eq_false_iff, Bool.or_eq_false_iff, Int.not_lt, Int.not_le] at hc0
      obtain rfl : m = i := by omega
      refine TW.exit ?_
      refine TQ.thenX ?_
      refine TQ.thenX ?_
      refine TQ.blkX ?_
      refine TQ.thenN (hY4 _ _ ?_)
      refine TW.region ?_
      refine TL.p Pu.mv ?_
      refine TL.p (Pu.ln Tryz.underlying23) ?_
      refine TL.p Pu.le ?_
      refine TL.p Pu.mv ?_
      refine TL.mid 9 [(65, .bool (decide ((m : Int) ≤ 8) && decide (((markAll (held l v m)).length : Int) = z)))] ?_ (fun hM2 => ?_)
      · simp only [List.toList_toArray, List.drop_succ_cons, List.drop_zero]
        refine TL.ct rfl (enters Tryz.func76 rfl rfl) (fun w hw => by
            exact need_any _ _ _ (by decide)) (fun hp4 => ?_) (fun hp4 => ?_)
        rotate_left
        · refine TQ.pan rfl ?_
          first
            | exact fun w hw => check_p1 hp1 hw
            | exact fun w hw => check_p hp1 hp2 (fun h => ties_no2 him hj3 h) hw
            | exact fun w hw => check_p hp1 hp3 (fun h => ties_no3 him h) hw
            | exact fun w hw => check_p hp1 hp4 (fun h => by unfold tiesOk; rw [← hz, h, Bool.and_false]) hw
        refine TL.nil ?_
        refine TQ.end Tryz.results47 rfl (.nil) ?_
        exact fun w hw => Try.ok (by
          have h4 := need_yes (by decide) hp4
          rw [hz] at h4
          unfold checkV
          rw [hp1, if_pos rfl]
          unfold tiesOk
          rw [h4, allB_iff.2 hoks]
          rfl) hw
      refine TL.guard (t := 60) rfl (fun hg1 => ?_) (fun hg1 => ?_)
      · refine TL.gd Pu.mv ?_
        refine TL.gd (Pu.ml' ty_mp151) ?_
        refine TL.gd Pu.mv ?_
        refine TL.gd Pu.eq ?_
        refine TL.p Pu.kt ?_
        exact TL.sub (by repeat (first | exact trivial | refine ⟨rfl, ?_⟩ | refine ⟨trivial, ?_⟩ | refine ⟨(by show some (Value.bool _) = some (Value.bool _); simp [hg1]), ?_⟩)) (by repeat (first | exact KSub.nil | refine KSub.cons (by repeat (first | exact Pick.hd | apply Pick.tl)) ?_)) hM2
      · refine TL.gs ?_
        refine TL.gs ?_
        refine TL.gs ?_
        refine TL.gs ?_
        refine TL.p Pu.kf ?_
        exact TL.sub (by repeat (first | exact trivial | refine ⟨rfl, ?_⟩ | refine ⟨trivial, ?_⟩ | refine ⟨(by show some (Value.bool _) = some (Value.bool _); simp [hg1]), ?_⟩)) (by repeat (first | exact KSub.nil | refine KSub.cons (by repeat (first | exact Pick.hd | apply Pick.tl)) ?_)) hM2
  refine TL.guard (t := 15) rfl (fun hg2 => ?_) (fun hg2 => ?_)
  · refine TL.gd Pu.mv ?_
    refine TL.cr rfl (enters Tryz.func86 rfl rfl) (fun w hw => by
        exact everyPack_any (fs := []) (cs := []) (p := fun k => packOk (pk k)) (enters Tryz.func63 rfl rfl) (by omega) (hR.sat hw Apart.nil) fun k hk w' hb => by simpa using valid_any (pk k) w' ((hG.sat hw (by simp)).ext hb)) ?_
    refine TL.p Pu.kt ?_
    exact TL.sub (by repeat (first | exact trivial | refine ⟨rfl, ?_⟩ | refine ⟨trivial, ?_⟩ | refine ⟨(by show some (Value.bool _) = some (Value.bool _); simp [hg2]), ?_⟩)) (by repeat (first | exact KSub.nil | refine KSub.cons (by repeat (first | exact Pick.hd | apply Pick.tl)) ?_)) hM1
  · refine TL.gs ?_
    refine TL.gs ?_
    refine TL.p Pu.kf ?_
    exact TL.sub (by repeat (first | exact trivial | refine ⟨rfl, ?_⟩ | refine ⟨trivial, ?_⟩ | refine ⟨(by show some (Value.bool _) = some (Value.bool _); simp [hg2]), ?_⟩)) (by repeat (first | exact KSub.nil | refine KSub.cons (by repeat (first | exact Pick.hd | apply Pick.tl)) ?_)) hM1
end Go.Proofs.YtjephihlkjpohaaGreatDoor
namespace Go.Proofs.YtjephihlkjpohaaGreatDoor
set_option linter.all false
set_option linter.unusedVariables false
set_option linter.unusedSimpArgs false
open Go.RowKit
structure Lay (w : World) (A A2 : Option Addr) (np m : Nat) (pk : Nat → Nat → Int) (a : Nat → Nat → Option Addr) (l c : Nat → Nat → Nat) (v : Nat → Nat → Nat → Int) : Prop where
  hG : None0 w
  hnp : np ≤ 1000000000
  hm : m ≤ 1000
  hR : RdR w 11 A np (fun k => packL (pk k))
  hT : RdR w 3 A2 m (fun i => tieL (a i) (l i) (c i))
  hI : ∀ i, i < m → ∀ j, j < 3 → RdR w 1 (a i j) (l i j) (fun k => [.int .i64 (v i j k)])
  hL : ∀ i, i < m → tot (l i) 3 ≤ 1000
section
variable {w w' : World} {A A2 : Option Addr} {np m : Nat} {pk : Nat → Nat → Int} {a : Nat → Nat → Option Addr} {l c : Nat → Nat → Nat} {v : Nat → Nat → Nat → Int}
theorem Lay.sat {K : List Fact} (h : Lay w A A2 np m pk a l c v) (hs : Sat [] w K w') : Lay w' A A2 np m pk a l c v :=
  ⟨h.hG.sat hs (by simp), h.hnp, h.hm, h.hR.sat hs Apart.nil, h.hT.sat hs Apart.nil, fun i hi j hj => (h.hI i hi j hj).sat hs Apart.nil, h.hL⟩
theorem Lay.ext (h : Lay w A A2 np m pk a l c v) (hb : Below w.heap.size w w') : Lay w' A A2 np m pk a l c v := h.sat (Sat.nil (Chg.of_ext hb))
theorem Lay.check {cp cp2 : Nat} (h : Lay w A A2 np m pk a l c v) : Calls Tryz.prog 47 #[.slice A np cp, .slice A2 m cp2] w (Try w errs (checkV np pk m l v) (.tuple #[])) :=
  check_any h.hG h.hnp h.hm h.hR h.hT h.hI h.hL
end
theorem tot3 (l : Nat → Nat) : tot l 3 = l 0 + l 1 + l 2 := by simp [tot]
theorem cat3 (l : Nat → Nat) (s : Nat → Nat → List Value) : catN l s 3 = catR (l 0 + l 1) (catR (l 0) (s 0) (s 1)) (s 2) := by
  have e : catR 0 (fun _ => []) (s 0) = s 0 := by funext i; simp [catR]
  simp [catN, tot, e]
end Go.Proofs.YtjephihlkjpohaaGreatDoor
namespace Go.Proofs.YtjephihlkjpohaaGreatDoor
set_option linter.all false
set_option linter.unusedVariables false
set_option linter.unusedSimpArgs false
open Go.RowKit
theorem mlook_mput (i j : Int) (v : Value) : ∀ l : List (Int × Value), mlook j (mput i v l) = if j = i then some v else mlook j l
  | [] => by by_cases h : j = i <;> simp [mput, mlook, h]
  | (k, u) :: l => by
    by_cases hk : i = k
    · subst hk; by_cases h : j = i <;> simp [mput, mlook, h]
    · by_cases h : j = i
      · subst h; simp [mput, mlook, hk, mlook_mput j j v l]
      · by_cases h2 : j = k
        · subst h2; simp [mput, mlook, hk, h]
        · simp [mput, mlook, hk, h, h2, mlook_mput i j v l]
theorem mark_look (x : Int) : ∀ (xs : List Int) (m : List (Int × Value)), (mlook x (xs.foldl (fun m x => mput x (.bool true) m) m)).isSome = (decide (x ∈ xs) || (mlook x m).isSome)
  | [], m => by simp
  | y :: xs, m => by
    rw [List.foldl_cons, mark_look x xs, mlook_mput]
    by_cases h : x = y <;> by_cases h2 : x ∈ xs <;> simp [h, h2]
end Go.Proofs.YtjephihlkjpohaaGreatDoor
namespace Go.Proofs.YtjephihlkjpohaaGreatDoor
set_option linter.all false
set_option linter.unusedVariables false
set_option linter.unusedSimpArgs false
open Go.RowKit
def Bd (f : Nat → Nat → Int) (np : Nat) (B : Int) : Prop := ∀ q, q < np → 0 ≤ f q 9 ∧ f q 9 ≤ B ∧ 0 ≤ f q 10 ∧ f q 10 ≤ 100000
theorem Bd.mono {f : Nat → Nat → Int} {np : Nat} {B D : Int} (h : Bd f np B) (h1 : B ≤ D) : Bd f np D := fun q hq => by
  obtain ⟨a, b, c, e⟩ := h q hq
  exact ⟨a, by omega, c, e⟩
end Go.Proofs.YtjephihlkjpohaaGreatDoor
namespace Go.Proofs.YtjephihlkjpohaaGreatDoor
set_option linter.all false
set_option linter.unusedVariables false
set_option linter.unusedSimpArgs false
open Go.RowKit
theorem old_below {W0 w w2 : World} {S : List Nat} {K : List Fact} (hb : Below W0.heap.size W0 w) (hs : Sat S w K w2) (hS : ∀ b ∈ S, W0.heap.size ≤ b) : Below W0.heap.size W0 w2 :=
  ⟨hs.chg.os.trans hb.os, hs.chg.tape.trans hb.tape, hs.chg.output.trans hb.output, Nat.le_trans hb.size hs.chg.size, fun k hk => (hs.chg.block k (Nat.lt_of_lt_of_le hk hb.size) (fun hm => by have := hS k hm; omega)).trans (hb.block k hk)⟩
theorem check_ok {np m : Nat} {pk : Nat → Nat → Int} {l : Nat → Nat → Nat} {v : Nat → Nat → Nat → Int} (h : checkV np pk m l v = 0) : np ≤ 30 ∧ (∀ q, q < np → packOk (pk q) = true) ∧ ∀ i, i < m → (∀ j, j < 3 → allB (l i j) (riseP (v i j) np) = true) ∧ tot (l i) 3 ≤ 10 := by
  unfold checkV at h
  split at h
  · rename_i hp
    split at h
    · rename_i ht
      simp only [packsOk, tiesOk, Bool.and_eq_true, decide_eq_true_eq] at hp ht
      refine ⟨by omega, allB_iff.1 hp.2, fun i hi => ?_⟩
      have := allB_iff.1 ht.1 i hi
      simp only [tieOk, Bool.and_eq_true, decide_eq_true_eq] at this
      exact ⟨allB_iff.1 this.1, this.2⟩
    · simp at h
  · simp at h
section
variable {np m nj : Nat} {pk jt : Nat → Nat → Int} {l : Nat → Nat → Nat} {v : Nat → Nat → Nat → Int} {days : Int}
end
end Go.Proofs.YtjephihlkjpohaaGreatDoor
namespace Go.Proofs.YtjephihlkjpohaaGreatDoor
set_option linter.all false
set_option linter.unusedVariables false
set_option linter.unusedSimpArgs false
open Go.RowKit
def sumF (g : Nat → Int) : Nat → Int
  | 0 => 0
  | n + 1 => sumF g n + g n
theorem sumF_bd {g : Nat → Int} {B : Int} : ∀ {n : Nat}, (∀ k, k < n → 0 ≤ g k ∧ g k ≤ B) → 0 ≤ sumF g n ∧ sumF g n ≤ n * B
  | 0, _ => by simp [sumF]
  | n + 1, h => by
    have h1 := sumF_bd (n := n) fun k hk => h k (by omega)
    have h2 := h n (by omega)
    simp only [sumF]
    have e : ((n + 1 : Nat) : Int) * B = n * B + B := by rw [Int.natCast_add, Int.add_mul]; simp
    omega
theorem sumF_le {g : Nat → Int} {n : Nat} (h : ∀ k, k < n → 0 ≤ g k ∧ g k ≤ 1000000) (hn : n ≤ 1000) : ∀ q, q ≤ n → 0 ≤ sumF g q ∧ sumF g q ≤ 1000000000 := fun q hq => by
  have h1 := sumF_bd (g := g) (n := q) fun k hk => h k (by omega)
  have : (q : Int) * 1000000 ≤ 1000 * 1000000 := by omega
  omega
theorem KSub.app {K K' L : List Fact} {A : Option Addr} {k c sz : Nat} {E : TypeId} {g : Nat → List Value} {x : List Value} (hp : Pick K (.own A (k + 1) c E sz (catR k g (fun _ => x))) K') (hx : x = g k) (h : KSub K' L) : KSub K (.own A (k + 1) c E sz g :: L) :=
  KSub.own hp (fun i hi => by
    simp only [catR]
    by_cases h : i < k
    · rw [if_pos h]
    · obtain rfl : i = k := by omega
      rw [if_neg h, hx]) h
theorem sum_any {A : Option Addr} {n cp : Nat} {x y : Nat → Int} {w : World} (hn : n ≤ 1000) (hx : ∀ k, k < n → 0 ≤ x k ∧ x k ≤ 1000000) (hy : ∀ k, k < n → 0 ≤ y k ∧ y k ≤ 1000000) (hR : RdR w 2 A n (fun k => spL (x k) (y k))) :
    Calls Tryz.prog 113 #[.slice A n cp] w (Ret w (.agg #[.int .i64 (sumF x n), .int .i64 (sumF y n)])) := by
  have sx := sumF_le hx hn
  have sy := sumF_le hy hn
  refine K_enter (S := []) (K := []) Tryz.func113 rfl Tryz.ntmps113 rfl (Sat.start _) ?_
  refine TW.seq fun Y1 hY1 => ?_
  refine TW.region ?_
  refine TL.m (Mk.al ty_zr43) ?_
  intro b1
  refine TL.nil ?_
  refine TQ.thenN (hY1 _ _ ?_)
  refine TW.seq fun Y2 hY2 => ?_
  refine TW.seq fun Y3 hY3 => ?_
  refine TW.region ?_
  refine TL.p Pu.mv ?_
  refine TL.p (Pu.ln Tryz.underlying109) ?_
  refine TL.p Pu.mv ?_
  refine TL.nil ?_
  refine TQ.thenN (hY3 _ _ ?_)
  refine TW.block ?_
  refine TW.loop1 (fun (k : Nat) => [(7, .int .i64 (k : Int)), (6, .int .i64 (n : Int)), (5, .slice A n cp), (2, .pointer (some ⟨b1, 0, none⟩))]) (fun k => [.blk b1 43 (spL (sumF x k) (sumF y k))]) (fun k => k ≤ n) (fun k => n - k) 0 (by repeat (first | exact trivial | refine ⟨rfl, ?_⟩ | refine ⟨trivial, ?_⟩)) ?_ ?_ ?_
  · exact (by repeat (first | exact KSub.nil | refine KSub.cons (by repeat (first | exact Pick.hd | apply Pick.tl)) ?_))
  · exact Nat.zero_le _
  rintro k hk Z0 hZ0
  refine TW.seq fun Y4 hY4 => ?_
  refine TW.region ?_
  refine TL.p Pu.lt ?_
  refine TL.nil ?_
  refine TQ.thenN (hY4 _ _ ?_)
  refine TW.seq fun Y5 hY5 => ?_
  refine TW.cond rfl (fun hc0 => ?_) (fun hc0 => ?_)
  · try simp only [decide_eq_true_eq, decide_eq_false_iff_not, Bool.not_eq_true', Bool.not_eq_false', Bool.and_eq_true, Bool.or_eq_true, Bool.and_eq_false_iff, Bool.or_eq_false_iff, Int.not_lt, Int.not_le] at hc0
    have hkn : k < n := by omega
    have hxk := hx k hkn
    have hyk := hy k hkn
    have sxk := sx k hk
    have syk := sy k hk
    refine TW.skip ?_
    refine TQ.thenN (hY5 _ _ ?_)
    refine TW.seq fun Y6 hY6 => ?_
    refine TW.block ?_
    refine TW.seq fun Y7 hY7 => ?_
    refine TW.region ?_
    refine TL.p (Pu.el ty_et109) ?_
    refine TL.p (Pu.lds ty_ag43) ?_
    refine TL.m (Mk.al ty_zr43) ?_
    intro b2
    first | refine TL.st ty_sz43 ?_ | refine TL.se ty_sz43 ?_
    refine TL.nil ?_
    refine TQ.thenN (hY7 _ _ ?_)
    refine TW.ex0 (Drop.blk 2 rfl (by repeat (first | exact Pick.hd | apply Pick.tl)) Drop.done) ?_
    refine RG.tk 0 rfl (by first | exact Pu.fb ty_fa43_0 | exact Pu.fe ty_fa43_0) ?_
    refine RG.tk 2 rfl (by first | exact Pu.fb ty_fa43_0 | exact Pu.fe ty_fa43_0) ?_
    refine RG.tk 3 rfl (Pu.ld ty_sc3) ?_
    refine RG.tk 5 rfl (by first | exact Pu.fb ty_fa43_1 | exact Pu.fe ty_fa43_1) ?_
    refine RG.tk 7 rfl (by first | exact Pu.fb ty_fa43_1 | exact Pu.fe ty_fa43_1) ?_
    refine RG.tk 8 rfl (Pu.ld ty_sc3) ?_
    refine RG.a2 1 6 rfl rfl (fun X1 hX1 => ?_) (fun X6 hX6 => ?_)
    · refine TL.p (Pu.ld ty_sc3) ?_
      refine TL.nil ?_
      refine TQ.nxt (hX1 _ _ (by repeat (first | exact HasL.nil | refine HasL.cons (by repeat (first | exact Pick.hd | apply Pick.tl)) ?_)) ?_)
      refine RG.tk 4 rfl Pu.ad ?_
      refine RG.a1 6 rfl (fun X6 hX6 => ?_)
      refine TL.p (Pu.ld ty_sc3) ?_
      refine TL.nil ?_
      refine TQ.nxt (hX6 _ _ (by repeat (first | exact HasL.nil | refine HasL.cons (by repeat (first | exact Pick.hd | apply Pick.tl)) ?_)) ?_)
      refine RG.tk 9 rfl Pu.ad ?_
      refine RG.tk 10 rfl (by first | exact Pu.fb ty_fa43_0 | exact Pu.fe ty_fa43_0) ?_
      refine RG.a1 11 rfl (fun X11 hX11 => ?_)
      first | refine TL.st ty_sz3 ?_ | refine TL.se ty_sz3 ?_
      refine TL.nil ?_
      refine TQ.nxt (hX11 _ _ (by repeat (first | exact HasL.nil | refine HasL.cons (by repeat (first | exact Pick.hd | apply Pick.tl)) ?_)) ?_)
      refine RG.tk 12 rfl (by first | exact Pu.fb ty_fa43_1 | exact Pu.fe ty_fa43_1) ?_
      refine RG.a1 13 rfl (fun X13 hX13 => ?_)
      first | refine TL.st ty_sz3 ?_ | refine TL.se ty_sz3 ?_
      refine TL.nil ?_
      refine TQ.nxt (hX13 _ _ (by repeat (first | exact HasL.nil | refine HasL.cons (by repeat (first | exact Pick.hd | apply Pick.tl)) ?_)) ?_)
      refine RG.nil ?_ (by kernel_rfl)
      refine TQ.blkN ?_
      refine TQ.thenN (hY6 _ _ ?_)
      refine TW.region ?_
      refine TL.p Pu.ad ?_
      refine TL.p Pu.mv ?_
      refine TL.nil ?_
      refine TQ.thenN (hZ0 (k + 1) _ _ ?_ ?_ (by repeat (first | exact trivial | refine ⟨rfl, ?_⟩ | refine ⟨trivial, ?_⟩)) ?_)
      · exact (by omega)
      · exact (by first | omega | (simp only []; omega) | (simp; omega))
      · exact (by repeat (first | exact KSub.nil | refine KSub.cons (by repeat (first | exact Pick.hd | apply Pick.tl)) ?_))
    · refine TL.p (Pu.ld ty_sc3) ?_
      refine TL.nil ?_
      refine TQ.nxt (hX6 _ _ (by repeat (first | exact HasL.nil | refine HasL.cons (by repeat (first | exact Pick.hd | apply Pick.tl)) ?_)) ?_)
      refine RG.tk 9 rfl Pu.ad ?_
      refine RG.a1 1 rfl (fun X1 hX1 => ?_)
      refine TL.p (Pu.ld ty_sc3) ?_
      refine TL.nil ?_
      refine TQ.nxt (hX1 _ _ (by repeat (first | exact HasL.nil | refine HasL.cons (by repeat (first | exact Pick.hd | apply Pick.tl)) ?_)) ?_)
      refine RG.tk 4 rfl Pu.ad ?_
      refine RG.tk 10 rfl (by first | exact Pu.fb ty_fa43_0 | exact Pu.fe ty_fa43_0) ?_
      refine RG.a1 11 rfl (fun X11 hX11 => ?_)
      first | refine TL.st ty_sz3 ?_ | refine TL.se ty_sz3 ?_
      refine TL.nil ?_
      refine TQ.nxt (hX11 _ _ (by repeat (first | exact HasL.nil | refine HasL.cons (by repeat (first | exact Pick.hd | apply Pick.tl)) ?_)) ?_)
      refine RG.tk 12 rfl (by first | exact Pu.fb ty_fa43_1 | exact Pu.fe ty_fa43_1) ?_
      refine RG.a1 13 rfl (fun X13 hX13 => ?_)
      first | refine TL.st ty_sz3 ?_ | refine TL.se ty_sz3 ?_
      refine TL.nil ?_
      refine TQ.nxt (hX13 _ _ (by repeat (first | exact HasL.nil | refine HasL.cons (by repeat (first | exact Pick.hd | apply Pick.tl)) ?_)) ?_)
      refine RG.nil ?_ (by kernel_rfl)
      refine TQ.blkN ?_
      refine TQ.thenN (hY6 _ _ ?_)
      refine TW.region ?_
      refine TL.p Pu.ad ?_
      refine TL.p Pu.mv ?_
      refine TL.nil ?_
      refine TQ.thenN (hZ0 (k + 1) _ _ ?_ ?_ (by repeat (first | exact trivial | refine ⟨rfl, ?_⟩ | refine ⟨trivial, ?_⟩)) ?_)
      · exact (by omega)
      · exact (by first | omega | (simp only []; omega) | (simp; omega))
      · exact (by repeat (first | exact KSub.nil | refine KSub.cons (by repeat (first | exact Pick.hd | apply Pick.tl)) ?_))
  · try simp only [decide_eq_true_eq, decide_eq_false_iff_not, Bool.not_eq_true', Bool.not_eq_false', Bool.and_eq_true, Bool.or_eq_true, Bool.and_eq_false_iff, Bool.or_eq_false_iff, Int.not_lt, Int.not_le] at hc0
    obtain rfl : k = n := by omega
    refine TW.exit ?_
    refine TQ.thenX ?_
    refine TQ.thenX ?_
    refine TQ.blkX ?_
    refine TQ.thenN (hY2 _ _ ?_)
    refine TW.seq fun Y8 hY8 => ?_
    refine TW.region ?_
    refine TL.p (Pu.lds ty_ag43) ?_
    first | refine TL.st ty_sz43 ?_ | refine TL.se ty_sz43 ?_
    refine TL.nil ?_
    refine TQ.thenN (hY8 _ _ ?_)
    refine TW.ret ?_
    refine TQ.ret Tryz.results113 rfl ((RV.cs ty_ag43 .nil)) ?_
    exact fun w hw => Ret.of hw
theorem bounded_any (bound : Int) (w : World) : Calls Tryz.prog 48 #[.int .i64 bound] w (Try w errs (if inB5 0 1000000000 bound then 0 else 2) (.tuple #[])) := by
  refine K_enter (S := []) (K := []) Tryz.func48 rfl Tryz.ntmps48 rfl (Sat.start _) ?_
  refine TW.region ?_
  refine TL.p Pu.mv ?_
  refine TL.m Mk.bl ?_
  intro b1
  refine TL.cr rfl (enters Tryz.func78 rfl rfl) (fun w hw => by
      exact inOne_any _ _ _ (hw.holds _ (List.mem_cons_self ..))) ?_
  refine TL.ct rfl (enters Tryz.func76 rfl rfl) (fun w hw => by
      exact need_any _ _ _ (by decide)) (fun hp1 => ?_) (fun hp1 => ?_)
  rotate_left
  · refine TQ.pan rfl ?_
    exact fun w hw => Try.no hp1 hw
  refine TL.nil ?_
  refine TQ.end Tryz.results48 rfl (.nil) ?_
  exact fun w hw => Try.ok hp1 hw
end Go.Proofs.YtjephihlkjpohaaGreatDoor
namespace Go.Proofs.YtjephihlkjpohaaGreatDoor
set_option linter.all false
set_option linter.unusedVariables false
set_option linter.unusedSimpArgs false
open Go.RowKit
def rl (f : Nat → Int) : Int := (restV f).getD 0 0
def rh (f : Nat → Int) : Int := (restV f).getD 1 0
theorem rest_bd {f : Nat → Int} (h : packOk f = true) : 0 ≤ rl f ∧ rl f ≤ rh f ∧ rh f ≤ 1000000 := by
  obtain ⟨⟨h1, h2, h3, h4, h5, h6, h7⟩, hkind⟩ := (packOk_iff f).1 h
  have m1 : f 7 * f 10 ≤ f 8 * f 10 ∨ f 8 < f 7 := by
    by_cases hh : f 7 ≤ f 8
    · exact .inl (Int.mul_le_mul_of_nonneg_right hh h6)
    · exact .inr (by omega)
  unfold rl rh restV
  split
  · simp only [List.getD_cons_zero, List.getD_cons_succ]
    have : 0 ≤ f 7 * f 10 := Int.mul_nonneg (by omega) h6
    omega
  · split
    · simp only [List.getD_cons_zero, List.getD_cons_succ]; omega
    · have hk : f 0 = 1 := by omega
      have h8 : 0 ≤ f 5 ∧ f 5 ≤ f 6 ∧ f 6 ≤ 1000 := by omega
      have m3 : 0 ≤ f 1 * (1000 - f 6) ∧ f 1 * (1000 - f 6) ≤ f 1 * 1000 := ⟨Int.mul_nonneg h1 (by omega), Int.mul_le_mul_of_nonneg_left (by omega) h1⟩
      have m4 : f 1 * (1000 - f 6) ≤ f 2 * (1000 - f 5) := Int.mul_le_mul h2 (by omega) (by omega) (by omega)
      have m5 : f 2 * (1000 - f 5) ≤ f 2 * 1000 := Int.mul_le_mul_of_nonneg_left (by omega) (by omega)
      split <;> simp only [List.getD_cons_zero, List.getD_cons_succ] <;> omega
theorem restK_ok {f : Nat → Int} (h : packOk f = true) : restK f = [.agg #[.int .i64 (rl f), .int .i64 (rh f)], .agg #[.int .i64 ((restV f).getD 2 0), .int .i64 ((restV f).getD 3 0)], .int .u8 ((restV f).getD 4 0), .int .i64 0] := by
  unfold restK
  rw [if_pos h]
  rfl
theorem rests_any {A : Option Addr} {np cp : Nat} {pk : Nat → Nat → Int} {w : World} (hG : None0 w) (hn : np ≤ 1000000000) (hP : ∀ q, q < np → packOk (pk q) = true) (hR : RdR w 11 A np (fun k => packL (pk k))) :
    CallsK Tryz.prog 51 #[.slice A np cp] [] w (Option Addr × Nat) (fun x => .slice x.1 np x.2) (fun x => [.own x.1 np x.2 43 2 (fun q => spL (rl (pk q)) (rh (pk q)))]) := by
  refine K_enter (S := []) (K := []) Tryz.func51 rfl Tryz.ntmps51 rfl (Sat.start _) ?_
  refine TW.seq fun Y1 hY1 => ?_
  refine TW.region ?_
  refine TL.p Pu.as ?_
  refine TL.nil ?_
  refine TQ.thenN (hY1 _ _ ?_)
  refine TW.seq fun Y2 hY2 => ?_
  refine TW.region ?_
  refine TL.p Pu.as ?_
  refine TL.nil ?_
  refine TQ.thenN (hY2 _ _ ?_)
  refine TW.seq fun Y3 hY3 => ?_
  refine TW.seq fun Y4 hY4 => ?_
  refine TW.region ?_
  refine TL.p Pu.mv ?_
  refine TL.p (Pu.ln Tryz.underlying22) ?_
  refine TL.p Pu.mv ?_
  refine TL.nil ?_
  refine TQ.thenN (hY4 _ _ ?_)
  refine TW.block ?_
  refine TW.loop3 (fun (k : Nat) (Ao : Option Addr) (co : Nat) => [(12, .int .i64 (k : Int)), (11, .int .i64 (np : Int)), (10, .slice A np cp), (3, .slice Ao k co)]) (fun k Ao co => [.own Ao k co 43 2 (fun q => spL (rl (pk q)) (rh (pk q)))]) (fun k Ao co => k ≤ np) (fun k Ao co => np - k) 0 none 0 (by repeat (first | exact trivial | refine ⟨rfl, ?_⟩ | refine ⟨trivial, ?_⟩)) ?_ ?_ ?_
  · exact KSub.nilOwn KSub.nil
  · exact Nat.zero_le _
  rintro k Ao co hk Z0 hZ0
  refine TW.seq fun Y5 hY5 => ?_
  refine TW.region ?_
  refine TL.p Pu.lt ?_
  refine TL.nil ?_
  refine TQ.thenN (hY5 _ _ ?_)
  refine TW.seq fun Y6 hY6 => ?_
  refine TW.cond rfl (fun hc0 => ?_) (fun hc0 => ?_)
  · try simp only [decide_eq_true_eq, decide_eq_false_iff_not, Bool.not_eq_true', Bool.not_eq_false', Bool.and_eq_true, Bool.or_eq_true, Bool.and_eq_false_iff, Bool.or_eq_false_iff, Int.not_lt, Int.not_le] at hc0
    have hkn : k < np := by omega
    refine TW.skip ?_
    refine TQ.thenN (hY6 _ _ ?_)
    refine TW.seq fun Y7 hY7 => ?_
    refine TW.block ?_
    refine TW.seq fun Y8 hY8 => ?_
    refine TW.region ?_
    refine TL.p (Pu.el ty_et22) ?_
    refine TL.p (Pu.lds ty_ag45) ?_
    refine TL.m (Mk.al ty_zr45) ?_
    intro b1
    first | refine TL.st ty_sz45 ?_ | refine TL.se ty_sz45 ?_
    refine TL.nil ?_
    refine TQ.thenN (hY8 _ _ ?_)
    refine TW.seq fun Y9 hY9 => ?_
    refine TW.region ?_
    refine TL.p (Pu.lds ty_ag45) ?_
    refine TL.cr rfl (enters Tryz.func23 rfl rfl) (fun w hw => by
        have h9 := rest_any (pk k) w (hG.sat hw (by simp))
        rw [restK_ok (hP k hkn)] at h9
        exact h9) ?_
    refine TL.p Pu.mv ?_
    refine TL.p Pu.ex ?_
    refine TL.p Pu.ex ?_
    refine TL.p Pu.ex ?_
    refine TL.p Pu.ex ?_
    refine TL.m (Mk.al ty_zr43) ?_
    intro b2
    refine TL.m (Mk.al ty_zr43) ?_
    intro b3
    first | refine TL.st ty_sz43 ?_ | refine TL.se ty_sz43 ?_
    first | refine TL.st ty_sz43 ?_ | refine TL.se ty_sz43 ?_
    refine TL.p Pu.as ?_
    refine TL.p Pu.as ?_
    refine TL.nil ?_
    refine TQ.thenN (hY9 _ _ ?_)
    refine TW.region ?_
    refine TL.p Pu.mv ?_
    refine TL.p (Pu.lds ty_ag43) ?_
    refine TL.m Mk.bl ?_
    intro b4
    first | refine TL.a0 ty_et109 ?_ | refine TL.ap ty_et109 ?_
    intro A5 c5
    refine TL.p Pu.as ?_
    refine TL.nil ?_
    refine TQ.blkN ?_
    refine TQ.thenN (hY7 _ _ ?_)
    refine TW.region ?_
    refine TL.p Pu.ad ?_
    refine TL.p Pu.mv ?_
    refine TL.nil ?_
    refine TQ.thenN (hZ0 (k + 1) _ _ _ _ ?_ ?_ (by repeat (first | exact trivial | refine ⟨rfl, ?_⟩ | refine ⟨trivial, ?_⟩)) ?_)
    · exact (by omega)
    · exact (by first | omega | (simp only []; omega) | (simp; omega))
    · exact KSub.app (by repeat (first | exact Pick.hd | apply Pick.tl)) rfl KSub.nil
  · try simp only [decide_eq_true_eq, decide_eq_false_iff_not, Bool.not_eq_true', Bool.not_eq_false', Bool.and_eq_true, Bool.or_eq_true, Bool.and_eq_false_iff, Bool.or_eq_false_iff, Int.not_lt, Int.not_le] at hc0
    obtain rfl : k = np := by omega
    refine TW.exit ?_
    refine TQ.thenX ?_
    refine TQ.thenX ?_
    refine TQ.blkX ?_
    refine TQ.thenN (hY3 _ _ ?_)
    refine TW.seq fun Y10 hY10 => ?_
    refine TW.region ?_
    refine TL.p Pu.mv ?_
    refine TL.p Pu.as ?_
    refine TL.nil ?_
    refine TQ.thenN (hY10 _ _ ?_)
    refine TW.ret ?_
    refine TQ.ret Tryz.results51 rfl ((.tmp rfl .nil)) ?_
    exact fun w hw => ⟨(Ao, co), rfl, hw⟩
def wS (r : Nat → Int) (v : Nat → Int) (n : Nat) : Int := sumF (fun k => r (v k).toNat) n
def Inx (v : Nat → Int) (n nr : Nat) : Prop := ∀ k, k < n → 0 ≤ v k ∧ v k < nr
def tiedL (a : Nat → Option Addr) (l c : Nat → Nat) (Ar : Option Addr) (nr cr : Nat) : List Value := [.slice (a 0) (l 0) (c 0), .slice (a 1) (l 1) (c 1), .slice (a 2) (l 2) (c 2), .slice Ar nr cr]
structure RestOk (r0 r1 : Nat → Int) (nr : Nat) : Prop where
  lo : ∀ q, q < nr → 0 ≤ r0 q
  le : ∀ q, q < nr → r0 q ≤ r1 q
  hi : ∀ q, q < nr → r1 q ≤ 1000000
theorem RestOk.bd0 {r0 r1 : Nat → Int} {nr n : Nat} {v : Nat → Int} (h : RestOk r0 r1 nr) (hv : Inx v n nr) : ∀ k, k < n → 0 ≤ r0 (v k).toNat ∧ r0 (v k).toNat ≤ 1000000 := fun k hk => by
  have := hv k hk
  have a := h.lo (v k).toNat (by omega); have b := h.le (v k).toNat (by omega); have c := h.hi (v k).toNat (by omega)
  omega
theorem RestOk.bd1 {r0 r1 : Nat → Int} {nr n : Nat} {v : Nat → Int} (h : RestOk r0 r1 nr) (hv : Inx v n nr) : ∀ k, k < n → 0 ≤ r1 (v k).toNat ∧ r1 (v k).toNat ≤ 1000000 := fun k hk => by
  have := hv k hk
  have a := h.lo (v k).toNat (by omega); have b := h.le (v k).toNat (by omega); have c := h.hi (v k).toNat (by omega)
  omega
theorem sumF_mono {g h : Nat → Int} : ∀ {n : Nat}, (∀ k, k < n → g k ≤ h k) → sumF g n ≤ sumF h n
  | 0, _ => by simp [sumF]
  | n + 1, e => by
    have h1 := sumF_mono (n := n) fun k hk => e k (by omega)
    have h2 := e n (by omega)
    simp only [sumF]; omega
theorem RestOk.wS {r0 r1 : Nat → Int} {nr n : Nat} {v : Nat → Int} (h : RestOk r0 r1 nr) (hv : Inx v n nr) (hn : n ≤ 1000) : 0 ≤ wS r0 v n ∧ wS r0 v n ≤ wS r1 v n ∧ wS r1 v n ≤ 1000000000 := by
  have h0 := sumF_le (h.bd0 hv) hn n (Nat.le_refl _)
  have h1 := sumF_le (h.bd1 hv) hn n (Nat.le_refl _)
  have h2 := sumF_mono (n := n) (g := fun k => r0 (v k).toNat) (h := fun k => r1 (v k).toNat) fun k hk => by
    have := hv k hk
    exact h.le _ (by omega)
  exact ⟨h0.1, h2, h1.2⟩
theorem weight_any {a : Nat → Option Addr} {l c : Nat → Nat} {Ar A : Option Addr} {nr cr n cp : Nat} {r0 r1 v : Nat → Int} {w : World} (hr : RestOk r0 r1 nr) (hn : n ≤ 1000) (hv : Inx v n nr)
    (hR : RdR w 2 Ar nr (fun q => spL (r0 q) (r1 q))) (hI : RdR w 1 A n (fun k => [.int .i64 (v k)])) :
    Calls Tryz.prog 71 #[.agg (tiedL a l c Ar nr cr).toArray, .slice A n cp] w (Ret w (.agg #[.int .i64 (wS r0 v n), .int .i64 (wS r1 v n)])) := by
  refine K_enter (S := []) (K := []) Tryz.func71 rfl Tryz.ntmps71 rfl (Sat.start _) ?_
  refine TW.seq fun Y1 hY1 => ?_
  refine TW.region ?_
  refine TL.m Mk.bx ?_
  intro b1
  refine TL.m (Mk.al ty_zr43) ?_
  intro b2
  refine TL.nil ?_
  refine TQ.thenN (hY1 _ _ ?_)
  refine TW.seq fun Y2 hY2 => ?_
  refine TW.region ?_
  refine TL.p Pu.as ?_
  refine TL.nil ?_
  refine TQ.thenN (hY2 _ _ ?_)
  refine TW.seq fun Y3 hY3 => ?_
  refine TW.seq fun Y4 hY4 => ?_
  refine TW.region ?_
  refine TL.p Pu.mv ?_
  refine TL.p (Pu.ln Tryz.underlying24) ?_
  refine TL.p Pu.mv ?_
  refine TL.nil ?_
  refine TQ.thenN (hY4 _ _ ?_)
  refine TW.block ?_
  refine TW.loop3 (fun (k : Nat) (Ao : Option Addr) (co : Nat) => [(10, .int .i64 (k : Int)), (9, .int .i64 (n : Int)), (8, .slice A n cp), (5, .slice Ao k co), (2, .pointer (some ⟨b1, 0, none⟩)), (4, .pointer (some ⟨b2, 0, none⟩))]) (fun k Ao co => [.own Ao k co 43 2 (fun q => spL (r0 (v q).toNat) (r1 (v q).toNat)), .blk b1 112 (tiedL a l c Ar nr cr), .blk b2 43 (spL 0 0)]) (fun k Ao co => k ≤ n) (fun k Ao co => n - k) 0 none 0 (by repeat (first | exact trivial | refine ⟨rfl, ?_⟩ | refine ⟨trivial, ?_⟩)) ?_ ?_ ?_
  · exact KSub.nilOwn (KSub.cons (Pick.tl Pick.hd) (KSub.cons Pick.hd KSub.nil))
  · exact Nat.zero_le _
  rintro k Ao co hk Z0 hZ0
  refine TW.seq fun Y5 hY5 => ?_
  refine TW.region ?_
  refine TL.p Pu.lt ?_
  refine TL.nil ?_
  refine TQ.thenN (hY5 _ _ ?_)
  refine TW.seq fun Y6 hY6 => ?_
  refine TW.cond rfl (fun hc0 => ?_) (fun hc0 => ?_)
  · try simp only [decide_eq_true_eq, decide_eq_false_iff_not, Bool.not_eq_true', Bool.not_eq_false', Bool.and_eq_true, Bool.or_eq_true, Bool.and_eq_false_iff, Bool.or_eq_false_iff, Int.not_lt, Int.not_le] at hc0
    have hkn : k < n := by omega
    have hvk := hv k hkn
    refine TW.skip ?_
    refine TQ.thenN (hY6 _ _ ?_)
    refine TW.seq fun Y7 hY7 => ?_
    refine TW.block ?_
    refine TW.seq fun Y8 hY8 => ?_
    refine TW.region ?_
    refine TL.p (Pu.el ty_et24) ?_
    refine TL.p (Pu.ld ty_sc3) ?_
    refine TL.p Pu.as ?_
    refine TL.nil ?_
    refine TQ.thenN (hY8 _ _ ?_)
    refine TW.region ?_
    refine TL.p Pu.mv ?_
    refine TL.p (by first | exact Pu.fb ty_fa112_1 | exact Pu.fe ty_fa112_1) ?_
    refine TL.p (Pu.ld ty_sc109) ?_
    refine TL.p Pu.mv ?_
    refine TL.p (Pu.el (q := (v k).toNat) ty_et109 (hk := rfl)) ?_
    refine TL.p (Pu.lds ty_ag43) ?_
    refine TL.m Mk.bl ?_
    intro b3
    first | refine TL.a0 ty_et109 ?_ | refine TL.ap ty_et109 ?_
    intro A4 c4
    refine TL.p Pu.as ?_
    refine TL.nil ?_
    refine TQ.blkN ?_
    refine TQ.thenN (hY7 _ _ ?_)
    refine TW.region ?_
    refine TL.p Pu.ad ?_
    refine TL.p Pu.mv ?_
    refine TL.nil ?_
    refine TQ.thenN (hZ0 (k + 1) _ _ _ _ ?_ ?_ (by repeat (first | exact trivial | refine ⟨rfl, ?_⟩ | refine ⟨trivial, ?_⟩)) ?_)
    · exact (by omega)
    · exact (by first | omega | (simp only []; omega) | (simp; omega))
    · exact KSub.app (by repeat (first | exact Pick.hd | apply Pick.tl)) rfl (by repeat (first | exact KSub.nil | refine KSub.cons (by repeat (first | exact Pick.hd | apply Pick.tl)) ?_))
  · try simp only [decide_eq_true_eq, decide_eq_false_iff_not, Bool.not_eq_true', Bool.not_eq_false', Bool.and_eq_true, Bool.or_eq_true, Bool.and_eq_false_iff, Bool.or_eq_false_iff, Int.not_lt, Int.not_le] at hc0
    obtain rfl : k = n := by omega
    refine TW.exit ?_
    refine TQ.thenX ?_
    refine TQ.thenX ?_
    refine TQ.blkX ?_
    refine TQ.thenN (hY3 _ _ ?_)
    refine TW.seq fun Y9 hY9 => ?_
    refine TW.region ?_
    refine TL.p Pu.mv ?_
    refine TL.cr rfl (enters Tryz.func113 rfl rfl) (fun w hw => by
        exact sum_any hn (hr.bd0 hv) (hr.bd1 hv) (OwnR.rdr (hw.holds (.own Ao k co 43 2 (fun q => spL (r0 (v q).toNat) (r1 (v q).toNat))) (by simp)))) ?_
    first | refine TL.st ty_sz43 ?_ | refine TL.se ty_sz43 ?_
    refine TL.nil ?_
    refine TQ.thenN (hY9 _ _ ?_)
    refine TW.ret ?_
    refine TQ.ret Tryz.results71 rfl ((RV.cs ty_ag43 .nil)) ?_
    exact fun w hw => Ret.of hw
end Go.Proofs.YtjephihlkjpohaaGreatDoor
namespace Go.Proofs.YtjephihlkjpohaaGreatDoor
set_option linter.all false
set_option linter.unusedVariables false
set_option linter.unusedSimpArgs false
open Go.RowKit
def balV (l0 l1 r0 r1 b : Int) : Int := if -b ≤ l0 - r1 ∧ l1 - r0 ≤ b then 2 else if b < l0 - r1 ∨ l1 - r0 < -b then 0 else 1
set_option maxRecDepth 100000 in
theorem balance_any {a : Nat → Option Addr} {l c : Nat → Nat} {Ar : Option Addr} {nr cr : Nat} {r0 r1 : Nat → Int} {v : Nat → Nat → Int} {b : Int} {w : World} (hr : RestOk r0 r1 nr) (hb : 0 ≤ b ∧ b ≤ 1000000000000) (hl : ∀ j, j < 2 → l j ≤ 1000) (hv : ∀ j, j < 2 → Inx (v j) (l j) nr)
    (hR : RdR w 2 Ar nr (fun q => spL (r0 q) (r1 q))) (hI : ∀ j, j < 2 → RdR w 1 (a j) (l j) (fun k => [.int .i64 (v j k)])) :
    Calls Tryz.prog 68 #[.agg (tiedL a l c Ar nr cr).toArray, .int .i64 b] w (Ret w (.int .u8 (balV (wS r0 (v 0) (l 0)) (wS r1 (v 0) (l 0)) (wS r0 (v 1) (l 1)) (wS r1 (v 1) (l 1)) b))) := by
  have e0 := hr.wS (hv 0 (by omega)) (hl 0 (by omega))
  have e1 := hr.wS (hv 1 (by omega)) (hl 1 (by omega))
  generalize hq0 : wS r0 (v 0) (l 0) = l0 at *
  generalize hq1 : wS r1 (v 0) (l 0) = l1 at *
  generalize hq2 : wS r0 (v 1) (l 1) = s0 at *
  generalize hq3 : wS r1 (v 1) (l 1) = s1 at *
  refine K_enter (S := []) (K := []) Tryz.func68 rfl Tryz.ntmps68 rfl (Sat.start _) ?_
  refine TW.seq fun Y1 hY1 => ?_
  refine TW.region ?_
  refine TL.m Mk.bx ?_
  intro b1
  refine TL.p Pu.as ?_
  refine TL.nil ?_
  refine TQ.thenN (hY1 _ _ ?_)
  refine TW.seq fun Y2 hY2 => ?_
  refine TW.dw 12 ?_
  refine RK.tk (Pu.lds ty_ag112) ?_
  refine RK.tk (by first | exact Pu.fb ty_fa112_0 | exact Pu.fe ty_fa112_0) ?_
  refine RK.tk (by first | exact Pu.fb ty_fa36_0 | exact Pu.fe ty_fa36_0) ?_
  refine RK.tk (Pu.ld ty_sc24) ?_
  refine RK.keep ?_
  refine RK.tk (Pu.lds ty_ag112) ?_
  refine RK.tk (by first | exact Pu.fb ty_fa112_0 | exact Pu.fe ty_fa112_0) ?_
  refine RK.tk (by first | exact Pu.fb ty_fa36_1 | exact Pu.fe ty_fa36_1) ?_
  refine RK.tk (Pu.ld ty_sc24) ?_
  refine RK.keep ?_
  refine RK.float [.int .i64 0, .int .i64 0] ?_
  refine RK.float [.int .i64 0, .int .i64 0] ?_
  refine RK.ch [false, false] ?_ ⟨ty_zr43, ty_zr43, trivial⟩
  refine WK.cr rfl (enters Tryz.func71 rfl rfl) (fun w hw => by
      have h9 := weight_any (a := a) (l := l) (c := c) (Ar := Ar) (cr := cr) (cp := c 0) hr (hl 0 (by omega)) (hv 0 (by omega)) (hR.sat hw Apart.nil) ((hI 0 (by omega)).sat hw Apart.nil)
      rw [hq0, hq1] at h9
      exact h9) ?_
  refine WK.cr rfl (enters Tryz.func71 rfl rfl) (fun w hw => by
      have h9 := weight_any (a := a) (l := l) (c := c) (Ar := Ar) (cr := cr) (cp := c 1) hr (hl 1 (by omega)) (hv 1 (by omega)) (hR.sat hw Apart.nil) ((hI 1 (by omega)).sat hw Apart.nil)
      rw [hq2, hq3] at h9
      exact h9) ?_
  refine WK.n ?_
  intro b2
  intro b3
  first | refine TL.st ty_sz43 ?_ | refine TL.se ty_sz43 ?_
  first | refine TL.st ty_sz43 ?_ | refine TL.se ty_sz43 ?_
  refine TL.nil ?_
  refine TQ.thenN (hY2 _ _ ?_)
  refine TW.seq fun Y3 hY3 => ?_
  refine TW.seq fun Y4 hY4 => ?_
  refine TW.dw 12 ?_
  refine RK.tk (by first | exact Pu.fb ty_fa43_0 | exact Pu.fe ty_fa43_0) ?_
  refine RK.tk (Pu.ld ty_sc3) ?_
  refine RK.tk (by first | exact Pu.fb ty_fa43_1 | exact Pu.fe ty_fa43_1) ?_
  refine RK.tk (Pu.ld ty_sc3) ?_
  refine RK.tk Pu.sb ?_
  refine RK.tk (by first | exact Pu.fb ty_fa43_1 | exact Pu.fe ty_fa43_1) ?_
  refine RK.tk (Pu.ld ty_sc3) ?_
  refine RK.tk (by first | exact Pu.fb ty_fa43_0 | exact Pu.fe ty_fa43_0) ?_
  refine RK.tk (Pu.ld ty_sc3) ?_
  refine RK.tk Pu.sb ?_
  refine RK.tk Pu.as ?_
  refine RK.tk Pu.as ?_
  refine RK.ch [] ?_ trivial
  refine WK.n ?_
  refine TL.nil ?_
  refine TQ.thenN (hY4 _ _ ?_)
  refine TW.block ?_
  refine TW.seq fun Y5 hY5 => ?_
  refine TW.region ?_
  refine TL.p Pu.mv ?_
  refine TL.p Pu.ng ?_
  refine TL.p Pu.mv ?_
  refine TL.p Pu.mv ?_
  refine TL.p Pu.mv ?_
  refine TL.m Mk.bl ?_
  intro b4
  refine TL.cr rfl (enters Tryz.func78 rfl rfl) (fun w hw => by
      exact inTwo_any _ _ _ _ (hw.holds _ (List.mem_cons_self ..))) ?_
  refine TL.p Pu.as ?_
  refine TL.nil ?_
  refine TQ.thenN (hY5 _ _ ?_)
  refine TW.cond rfl (fun hc0 => ?_) (fun hc0 => ?_)
  · try simp only [decide_eq_true_eq, decide_eq_false_iff_not, Bool.not_eq_true', Bool.not_eq_false', Bool.and_eq_true, Bool.or_eq_true, Bool.and_eq_false_iff, Bool.or_eq_false_iff, Int.not_lt, Int.not_le] at hc0
    have h7 : -b ≤ l0 - s1 ∧ l1 - s0 ≤ b := by
      simp only [inB5, Bool.and_eq_true, decide_eq_true_eq] at hc0
      omega
    refine TW.seq fun Y6 hY6 => ?_
    refine TW.region ?_
    refine TL.p Pu.as ?_
    refine TL.nil ?_
    refine TQ.thenN (hY6 _ _ ?_)
    refine TW.ret ?_
    refine TQ.blkR ?_
    refine TQ.thenR ?_
    refine TQ.ret Tryz.results68 rfl ((.tmp rfl .nil)) ?_
    exact fun w hw => ⟨ret_int (by unfold balV; rw [if_pos h7]), Chg.ext hw.chg⟩
  · try simp only [decide_eq_true_eq, decide_eq_false_iff_not, Bool.not_eq_true', Bool.not_eq_false', Bool.and_eq_true, Bool.or_eq_true, Bool.and_eq_false_iff, Bool.or_eq_false_iff, Int.not_lt, Int.not_le] at hc0
    have h7 : ¬ (-b ≤ l0 - s1 ∧ l1 - s0 ≤ b) := by
      intro h
      simp only [inB5, Bool.and_eq_false_iff, decide_eq_false_iff_not] at hc0
      omega
    refine TW.seq fun Y7 hY7 => ?_
    refine TW.join [(37, .bool (decide (b < l0 - s1) || decide (l1 - s0 < -b)))] ?_ (fun hJ1 => ?_)
    · refine TQ.thenN (hY7 _ _ ?_)
      refine TW.cond rfl (fun hc1 => ?_) (fun hc1 => ?_)
      · try simp only [decide_eq_true_eq, decide_eq_false_iff_not, Bool.not_eq_true', Bool.not_eq_false', Bool.and_eq_true, Bool.or_eq_true, Bool.and_eq_false_iff, Bool.or_eq_false_iff, Int.not_lt, Int.not_le] at hc1
        refine TW.seq fun Y8 hY8 => ?_
        refine TW.region ?_
        refine TL.p Pu.as ?_
        refine TL.nil ?_
        refine TQ.thenN (hY8 _ _ ?_)
        refine TW.ret ?_
        refine TQ.blkR ?_
        refine TQ.thenR ?_
        refine TQ.ret Tryz.results68 rfl ((.tmp rfl .nil)) ?_
        exact fun w hw => ⟨ret_int (by unfold balV; rw [if_neg h7, if_pos hc1]), Chg.ext hw.chg⟩
      · try simp only [decide_eq_true_eq, decide_eq_false_iff_not, Bool.not_eq_true', Bool.not_eq_false', Bool.and_eq_true, Bool.or_eq_true, Bool.and_eq_false_iff, Bool.or_eq_false_iff, Int.not_lt, Int.not_le] at hc1
        refine TW.skip ?_
        refine TQ.blkN ?_
        refine TQ.thenN (hY3 _ _ ?_)
        refine TW.seq fun Y9 hY9 => ?_
        refine TW.region ?_
        refine TL.p Pu.as ?_
        refine TL.nil ?_
        refine TQ.thenN (hY9 _ _ ?_)
        refine TW.ret ?_
        refine TQ.ret Tryz.results68 rfl ((.tmp rfl .nil)) ?_
        exact fun w hw => ⟨ret_int (by unfold balV; rw [if_neg h7, if_neg (by omega)]), Chg.ext hw.chg⟩
    refine TW.region ?_
    refine TL.p Pu.mv ?_
    refine TL.p Pu.mv ?_
    refine TL.p Pu.gt ?_
    refine TL.p Pu.mv ?_
    refine TL.guard (t := 41) rfl (fun hg1 => ?_) (fun hg1 => ?_)
    · refine TL.gs ?_
      refine TL.gs ?_
      refine TL.gs ?_
      refine TL.gs ?_
      refine TL.p Pu.kt ?_
      refine TL.p Pu.as ?_
      refine TL.nil ?_
      exact TQ.sub (by repeat (first | exact trivial | refine ⟨rfl, ?_⟩ | refine ⟨trivial, ?_⟩ | refine ⟨(by show some (Value.bool _) = some (Value.bool _); simp [hg1]), ?_⟩)) (by repeat (first | exact KSub.nil | refine KSub.cons (by repeat (first | exact Pick.hd | apply Pick.tl)) ?_)) hJ1
    · refine TL.gd Pu.mv ?_
      refine TL.gd Pu.mv ?_
      refine TL.gd Pu.ng ?_
      refine TL.gd Pu.lt ?_
      refine TL.p Pu.kf ?_
      refine TL.p Pu.as ?_
      refine TL.nil ?_
      exact TQ.sub (by repeat (first | exact trivial | refine ⟨rfl, ?_⟩ | refine ⟨trivial, ?_⟩ | refine ⟨(by show some (Value.bool _) = some (Value.bool _); simp [hg1]), ?_⟩)) (by repeat (first | exact KSub.nil | refine KSub.cons (by repeat (first | exact Pick.hd | apply Pick.tl)) ?_)) hJ1
theorem RestOk.of_packs {pk : Nat → Nat → Int} {np : Nat} (hP : ∀ q, q < np → packOk (pk q) = true) : RestOk (fun q => rl (pk q)) (fun q => rh (pk q)) np :=
  ⟨fun q hq => (rest_bd (hP q hq)).1, fun q hq => (rest_bd (hP q hq)).2.1, fun q hq => (rest_bd (hP q hq)).2.2⟩
end Go.Proofs.YtjephihlkjpohaaGreatDoor
namespace Go.Proofs.YtjephihlkjpohaaGreatDoor
set_option linter.all false
set_option linter.unusedVariables false
set_option linter.unusedSimpArgs false
open Go.RowKit
def iL (L : List Int) : Nat → List Value := fun k => [.int .i64 (L.getD k 0)]
theorem iL_lt {L : List Int} {k : Nat} (h : k < L.length) : L[k]? = some (L.getD k 0) := by
  rw [List.getD_eq_getElem?_getD, List.getElem?_eq_getElem h]
  rfl
theorem getD_app {L M : List Int} {k : Nat} : (L ++ M).getD k 0 = if k < L.length then L.getD k 0 else M.getD (k - L.length) 0 := by
  simp only [List.getD_eq_getElem?_getD]
  by_cases h : k < L.length
  · rw [if_pos h, List.getElem?_append_left h]
  · rw [if_neg h, List.getElem?_append_right (by omega)]
theorem iL_app {L L' : List Int} {m : Nat} {x : Int} {s : Nat → List Value} (hm : m = L.length) (hL : L' = L ++ [x]) (hs : s 0 = [.int .i64 x]) : ∀ i, i < m + 1 → catR m (iL L) s i = iL L' i := fun i hi => by
  subst hL
  simp only [catR, iL]
  rw [getD_app]
  by_cases h : i < m
  · rw [if_pos h, if_pos (by omega)]
  · obtain rfl : i = m := by omega
    rw [if_neg h, Nat.sub_self, hs, if_neg (by omega), hm, Nat.sub_self]
    rfl
theorem iL_cat {L M : List Int} {n : Nat} (hn : n = L.length) : ∀ i, catR n (iL L) (iL M) i = iL (L ++ M) i := fun i => by
  subst hn
  simp only [catR, iL]
  rw [getD_app]
  split <;> rfl
def toI (v : Nat → Int) (n : Nat) : List Int := (List.range n).map v
theorem toI_len {v : Nat → Int} {n : Nat} : (toI v n).length = n := by simp [toI]
theorem toI_get {v : Nat → Int} {n k : Nat} (h : k < n) : (toI v n).getD k 0 = v k := by
  simp [toI, List.getD_eq_getElem?_getD, h]
theorem toI_succ {v : Nat → Int} {n : Nat} : toI v (n + 1) = toI v n ++ [v n] := by simp [toI, List.range_succ]
theorem RdR.toI {w : World} {A : Option Addr} {n : Nat} {v : Nat → Int} (h : RdR w 1 A n (fun k => [.int .i64 (v k)])) : RdR w 1 A (toI v n).length (iL (toI v n)) := by
  rw [toI_len]
  exact ⟨h.rd.congr fun i j hi hj => by simp only [rowF, iL, toI_get hi], fun i hi => rfl⟩
theorem mem_getD {L : List Int} {k : Nat} (h : k < L.length) : L.getD k 0 ∈ L := by
  have := iL_lt h
  exact List.mem_of_getElem? this
theorem take_succ {L : List Int} {k : Nat} (h : k < L.length) : L.take (k + 1) = L.take k ++ [L.getD k 0] := by
  rw [List.take_succ, iL_lt h]
  rfl
def ins (x : Int) : List Int → List Int
  | [] => [x]
  | y :: ys => if x ≤ y then x :: y :: ys else y :: ins x ys
def srt : List Int → List Int
  | [] => []
  | x :: xs => ins x (srt xs)
theorem ins_perm (x : Int) : ∀ L : List Int, (ins x L).Perm (x :: L)
  | [] => List.Perm.refl _
  | y :: ys => by
    simp only [ins]
    split
    · exact List.Perm.refl _
    · exact ((ins_perm x ys).cons y).trans (List.Perm.swap _ _ _)
theorem srt_perm : ∀ L : List Int, (srt L).Perm L
  | [] => List.Perm.refl _
  | x :: xs => (ins_perm x (srt xs)).trans ((srt_perm xs).cons x)
theorem srt_len (L : List Int) : (srt L).length = L.length := (srt_perm L).length_eq
theorem ins_mono (x : Int) : ∀ L : List Int, L.Pairwise (· ≤ ·) → (ins x L).Pairwise (· ≤ ·)
  | [], _ => by simp [ins]
  | y :: ys, h => by
    have h1 := List.pairwise_cons.1 h
    simp only [ins]
    split
    · rename_i hxy
      refine List.pairwise_cons.2 ⟨fun z hz => ?_, h⟩
      rcases List.mem_cons.1 hz with rfl | hz
      · exact hxy
      · exact Int.le_trans hxy (h1.1 z hz)
    · refine List.pairwise_cons.2 ⟨fun z hz => ?_, ins_mono x ys h1.2⟩
      rcases List.mem_cons.1 ((ins_perm x ys).mem_iff.1 hz) with rfl | hz
      · omega
      · exact h1.1 z hz
theorem srt_mono : ∀ L : List Int, (srt L).Pairwise (· ≤ ·)
  | [] => List.Pairwise.nil
  | x :: xs => ins_mono x _ (srt_mono xs)
theorem ms_mono (L : List Int) : (L.mergeSort fun x y => decide (x ≤ y)).Pairwise (· ≤ ·) :=
  (List.pairwise_mergeSort (le := fun x y : Int => decide (x ≤ y)) (fun a b c h1 h2 => by simp only [decide_eq_true_eq] at *; omega) (fun a b => by simp only [Bool.or_eq_true, decide_eq_true_eq]; omega) L).imp (by intro a b h; simpa using h)
theorem ms_srt (L : List Int) : (L.mergeSort fun x y => decide (x ≤ y)) = srt L :=
  List.Perm.eq_of_pairwise (le := (· ≤ ·)) (fun a b _ _ h1 h2 => Int.le_antisymm h1 h2) (ms_mono L) (srt_mono L) ((List.mergeSort_perm L _).trans (srt_perm L).symm)
theorem srt_nil : srt [] = [] := rfl
theorem mem_srt {L : List Int} {x : Int} : x ∈ srt L ↔ x ∈ L := (srt_perm L).mem_iff
def sel (L : List Int) (b : Nat) : Nat → List Int
  | 0 => []
  | i + 1 => if b / 2 ^ i % 2 = 1 then sel L b i ++ [L.getD i 0] else sel L b i
theorem sel_len {L : List Int} {b : Nat} : ∀ i, (sel L b i).length ≤ i
  | 0 => Nat.le_refl _
  | i + 1 => by
    have := sel_len (L := L) (b := b) i
    simp only [sel]
    split
    · simp; omega
    · omega
def mvd (S C M : List Int) : List Int := srt (S.filter (fun x => !M.contains x) ++ C.filter (fun x => M.contains x))
def cmpV (a b : Int) : Int := if a < b then -1 else if b < a then 1 else 0
def cmpI : List Int → List Int → Int
  | [], [] => 0
  | [], _ :: _ => -1
  | _ :: _, [] => 1
  | x :: xs, y :: ys => if cmpV x y = 0 then cmpI xs ys else cmpV x y
def setStep (ok : List Int → Bool) (s : List Int × Nat) (l : List Int) : List Int × Nat :=
  if (l.length < s.2 ∨ l.length = s.2 ∧ cmpI l s.1 < 0) ∧ ok l = true then (l, l.length) else s
def setRun (L : List Int) (ok : List Int → Bool) : Nat → List Int × Nat
  | 0 => ([], L.length + 1)
  | q + 1 => setStep ok (setRun L ok q) (sel L q L.length)
theorem setRun_le {L : List Int} {ok : List Int → Bool} : ∀ q, (setRun L ok q).2 ≤ L.length + 1 ∧ (setRun L ok q).1.length ≤ L.length
  | 0 => by simp [setRun]
  | q + 1 => by
    have h := setRun_le (L := L) (ok := ok) q
    have h2 := sel_len (L := L) (b := q) L.length
    simp only [setRun, setStep]
    split
    · simp; omega
    · exact h
end Go.Proofs.YtjephihlkjpohaaGreatDoor
namespace Go.Proofs.YtjephihlkjpohaaGreatDoor
set_option linter.all false
set_option linter.unusedVariables false
set_option linter.unusedSimpArgs false
open Go.RowKit
def catI (l : Nat → Nat) (v : Nat → Nat → Int) (k : Nat) : Int := if k < l 0 + l 1 then (if k < l 0 then v 0 k else v 1 (k - l 0)) else v 2 (k - (l 0 + l 1))
theorem catN_catI (l : Nat → Nat) (v : Nat → Nat → Int) : catN l (fun i k => [.int .i64 (v i k)]) 3 = fun k => [.int .i64 (catI l v k)] := by
  rw [cat3]
  funext k
  simp only [catR, catI]
  split
  · split <;> rfl
  · rfl
structure Lay1 (w : World) (A : Option Addr) (np : Nat) (pk : Nat → Nat → Int) (a : Nat → Option Addr) (l : Nat → Nat) (v : Nat → Nat → Int) : Prop where
  hG : None0 w
  hnp : np ≤ 1000000000
  hR : RdR w 11 A np (fun k => packL (pk k))
  hI : ∀ j, j < 3 → RdR w 1 (a j) (l j) (fun k => [.int .i64 (v j k)])
  hL : tot l 3 ≤ 1000
def check1 (np : Nat) (pk : Nat → Nat → Int) (l : Nat → Nat) (v : Nat → Nat → Int) : Int := checkV np pk 1 (fun _ => l) (fun _ => v)
section
variable {w w' : World} {A : Option Addr} {np : Nat} {pk : Nat → Nat → Int} {a : Nat → Option Addr} {l c : Nat → Nat} {v : Nat → Nat → Int}
theorem Lay1.sat {K : List Fact} (h : Lay1 w A np pk a l v) (hs : Sat [] w K w') : Lay1 w' A np pk a l v :=
  ⟨h.hG.sat hs (by simp), h.hnp, h.hR.sat hs Apart.nil, fun j hj => (h.hI j hj).sat hs Apart.nil, h.hL⟩
theorem Lay1.ext (h : Lay1 w A np pk a l v) (hb : Below w.heap.size w w') : Lay1 w' A np pk a l v := h.sat (Sat.nil (Chg.of_ext hb))
theorem Lay1.lay {b : Nat} {E : TypeId} (h : Lay1 w A np pk a l v) (hB : Blk w b E (tieL a l c).toArray) : Lay w A (some ⟨b, 0, none⟩) np 1 pk (fun _ => a) (fun _ => l) (fun _ => c) (fun _ => v) :=
  ⟨h.hG, h.hnp, by decide, h.hR, RdR.blk (n := 1) (cs := tieL a l c) hB rfl (fun i _ => rfl), fun i _ j hj => h.hI j hj, fun i _ => h.hL⟩
theorem rise_inx {u : Nat → Int} {n N : Nat} (h : allB n (riseP u N) = true) : Inx u n N := fun k hk => by
  have h1 := rise_lo (v := u) (N := N) (by omega) k fun j hj => allB_iff.1 h j (by omega)
  have h2 := allB_iff.1 h k hk
  simp only [riseP, inB5, Bool.and_eq_true, decide_eq_true_eq] at h2
  omega
theorem check1_ok (h : check1 np pk l v = 0) : np ≤ 30 ∧ (∀ q, q < np → packOk (pk q) = true) ∧ (∀ j, j < 3 → Inx (v j) (l j) np) ∧ tot l 3 ≤ 10 := by
  obtain ⟨h1, h2, h3⟩ := check_ok h
  obtain ⟨h4, h5⟩ := h3 0 (by omega)
  exact ⟨h1, h2, fun j hj => rise_inx (h4 j hj), h5⟩
theorem inx_cat (h : ∀ j, j < 3 → Inx (v j) (l j) np) : Inx (catI l v) (tot l 3) np := fun k hk => by
  rw [tot3] at hk
  unfold catI
  split
  · split
    · exact h 0 (by omega) k (by omega)
    · exact h 1 (by omega) _ (by omega)
  · exact h 2 (by omega) _ (by omega)
end
def wlo (pk : Nat → Nat → Int) (v : Nat → Int) (n : Nat) : Int := wS (fun q => rl (pk q)) v n
def whi (pk : Nat → Nat → Int) (v : Nat → Int) (n : Nat) : Int := wS (fun q => rh (pk q)) v n
theorem apart_of {S : List Nat} {b : Nat} (h : b ∉ S) : Apart S (some ⟨b, 0, none⟩) := fun q hq => by cases hq; exact h
theorem Doing.no {M K : List Fact} {X : Type} {L : X → List Fact} {code code' : Int} {w w' : World} (x : X) (hc : code' ≠ 0) (e : code = code') (hL : code ≠ 0 → L x = M) (hs : Sat (feet M) w K w') (hK : KSub K M) :
    ∃ x : X, Sat (feet M) w (L x) w' ∧ Ending.panicked (errs code') = if code = 0 then .returned (.tuple #[]) else .panicked (errs code) := by
  subst e
  exact ⟨x, by rw [hL hc]; exact hs.sub hK, by rw [if_neg hc]⟩
theorem Doing.yes {M K N : List Fact} {X : Type} {L : X → List Fact} {code : Int} {w w' : World} (x : X) (hc : code = 0) (hL : code = 0 → L x = N) (hs : Sat (feet M) w K w') (hK : KSub K N) :
    ∃ x : X, Sat (feet M) w (L x) w' ∧ Ending.returned (.tuple #[]) = if code = 0 then .returned (.tuple #[]) else .panicked (errs code) :=
  ⟨x, by rw [hL hc]; exact hs.sub hK, by rw [if_pos hc]⟩
theorem feet_new {w0 w : World} {K M : List Fact} {R : List Fact} (hs : Sat [] w0 K w) (hp : K.Perm (M ++ R)) : Sat (feet M) w M w ∧ ∀ b ∈ feet M, w0.heap.size ≤ b := by
  have h1 := hs.perm hp
  refine ⟨(Has.sat ⟨R, List.Perm.refl _⟩ h1).self, fun b hb => (h1.ge b (by rw [feet_append]; simp [hb])).resolve_left (by simp)⟩
end Go.Proofs.YtjephihlkjpohaaGreatDoor
