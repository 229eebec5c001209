/-
  slices.IndexFunc, slices.ContainsFunc and every, at ints, packs and jolts, with closures that may hold a state.
-/
import Derived.Test.YtagcnokaajinlaaDoorLoadG
namespace Go.Proofs.YtagcnokaajinlaaDoor
set_option linter.all false
set_option linter.unusedVariables false
set_option linter.unusedSimpArgs false
open Go.RowKit
theorem Chg.trans' {S : List Nat} {a b c : World} (k : Chg S b c) (h : Chg S a b) : Chg S a c := h.trans k
/-- The closure of 'every'. -/
theorem everyInt1_any {g : FuncId} {fs cs : List Value} {b : Nat} {u : Value} {p : Bool} {M L : List Fact} {w : World} (hen : Enters Tryd.prog g) (hb : OldB w b [.func (.func g) fs.toArray cs.toArray]) (hbM : b ∉ feet M) (hM : Sat (feet M) w M w)
    (hg : ∀ w', Sat (feet M) w M w' → CallsK Tryd.prog g (fs ++ [u] ++ cs).toArray M w' Unit (fun _ => .bool p) (fun _ => L)) :
    CallsK Tryd.prog 98 #[u, .pointer (some ⟨b, 0, none⟩)] M w Unit (fun _ => .bool (!p)) (fun _ => L) := by
  have hAp : Apart (feet M) (some ⟨b, 0, none⟩) := fun q hq => by cases hq; exact hbM
  refine K_enter (args := [u, .pointer (some ⟨b, 0, none⟩)]) (S := feet M) (K := M) Tryd.func98 rfl Tryd.ntmps98 rfl hM ?_
  refine TW.seq fun Y1 hY1 => ?_
  refine TW.region ?_
  refine TL.p Pu.as ?_
  refine TL.nil ?_
  refine TQ.thenN (hY1 _ _ ?_)
  refine TW.seq fun Y2 hY2 => ?_
  refine TW.region ?_
  refine TL.p (by first | exact (Pu.ld ty_sc118) | exact (Pu.ldo ty_sc118)) ?_
  refine TL.p Pu.mv ?_
  refine TL.cvk rfl rfl hen (by rw [List.append_nil]) (fun w hw => by
      exact hg w hw) ?_
  intro _
  refine TL.p Pu.no ?_
  refine TL.p Pu.as ?_
  refine TL.nil ?_
  refine TQ.thenN (hY2 _ _ ?_)
  refine TW.ret ?_
  refine TQ.ret Tryd.results98 rfl ((.tmp rfl .nil)) ?_
  exact fun w hw => ⟨(), rfl, by simpa using hw⟩
theorem everyInt_st {g : FuncId} {fs cs : List Value} {A : Option Addr} {n cp : Nat} {v : Nat → Int} {p : Nat → Bool} {M : Nat → List Fact} {w : World} (hen : Enters Tryd.prog g) (hn : n ≤ 9223372036854775807)
    (hR : RdR w 1 A n (fun k => [.int .i64 (v k)])) (hA : 0 < n → Apart (feet (M 0)) A) (hM : Sat (feet (M 0)) w (M 0) w) (hfe : ∀ k, feet (M k) = feet (M 0))
    (hg : ∀ k, k < n → (∀ j, j < k → p j = true) → ∀ w', Sat (feet (M 0)) w (M k) w' → CallsK Tryd.prog g (fs ++ [Value.int .i64 (v k)] ++ cs).toArray (M k) w' Unit (fun _ => .bool (p k)) (fun _ => M (k + 1))) :
    CallsK Tryd.prog 86 #[.slice A n cp, .func (.func g) fs.toArray cs.toArray] (M 0) w (Fst (fun k => !p k) n) (fun x => .bool (!decide (x.1 < n))) (fun x => M (aft n x.1)) := by
  refine K_enter (S := feet (M 0)) (K := M 0) Tryd.func86 rfl Tryd.ntmps86 rfl hM ?_
  refine TW.seq fun Y1 hY1 => ?_
  refine TW.region ?_
  refine TL.m Mk.bx ?_
  intro b1
  refine TL.p Pu.as ?_
  refine TL.nil ?_
  refine TQ.thenN (hY1 _ _ ?_)
  refine TW.seq fun Y2 hY2 => ?_
  refine TW.region ?_
  refine TL.p Pu.mv ?_
  refine TL.p Pu.fn ?_
  refine TL.call rfl (enters Tryd.func72 rfl rfl) (List.perm_append_comm (l₁ := [_])) rfl (fun w hw => by
      have hB : Blk w b1 _ #[.func (.func g) fs.toArray cs.toArray] := hw.holds _ (List.mem_cons_self ..)
      have hbM : b1 ∉ feet (M 0) := fun hm => (List.nodup_cons.1 (show (b1 :: feet (M 0)).Nodup from hw.nd)).1 hm
      have hw2 : Sat (feet (M 0)) _ (M 0) w := Has.sat ⟨[_], List.perm_append_comm (l₁ := [_])⟩ hw
      refine hasInt_st (p := fun k => !p k) (fs := []) (cs := [.pointer (some ⟨b1, 0, none⟩)]) (enters Tryd.func98 rfl rfl) hn (hR.sat0 hw hA) hA hw2.self hfe (fun k hk hp w' hw' => ?_)
      have h1 : OldB w' b1 [.func (.func g) fs.toArray cs.toArray] := (OldB.of_blk (cs := [_]) hB).sat hw' hbM
      have h2 : Sat (feet (M k)) w' (M k) w' := hw'.self
      refine everyInt1_any (p := p k)  hen h1 (by rw [hfe]; exact hbM) h2 fun w3 hw3 => hg k hk (fun j hj => by simpa using hp j hj) w3 ?_
      exact hw3.from (hw'.chg.trans' hw.chg) (fun q hq => .inl (by rw [← hfe k]; exact hq))) ?_
  intro x
  refine TL.p Pu.no ?_
  refine TL.p Pu.as ?_
  refine TL.nil ?_
  refine TQ.thenN (hY2 _ _ ?_)
  refine TW.ret ?_
  refine TQ.ret Tryd.results86 rfl ((.tmp rfl .nil)) ?_
  exact fun w hw => ⟨x, rfl, Has.sat ⟨[_], List.Perm.refl _⟩ hw⟩
theorem indexPack_any {g : FuncId} {fs cs : List Value} {A : Option Addr} {n cp : Nat} {v : Nat → Nat → Int} {p : Nat → Bool} {M : Nat → List Fact} {w : World} (hen : Enters Tryd.prog g) (hn : n ≤ 9223372036854775807)
    (hR : RdR w 11 A n (fun k => packL (v k))) (hA : 0 < n → Apart (feet (M 0)) A) (hM : Sat (feet (M 0)) w (M 0) w) (hfe : ∀ k, feet (M k) = feet (M 0))
    (hg : ∀ k, k < n → (∀ j, j < k → p j = false) → ∀ w', Sat (feet (M 0)) w (M k) w' → CallsK Tryd.prog g (fs ++ [Value.agg (packL (v k)).toArray] ++ cs).toArray (M k) w' Unit (fun _ => .bool (p k)) (fun _ => M (k + 1))) :
    CallsK Tryd.prog 90 #[.slice A n cp, .func (.func g) fs.toArray cs.toArray] (M 0) w (Fst p n) (fun x => .int .i64 (if x.1 < n then (x.1 : Int) else -1)) (fun x => M (aft n x.1)) := by
  refine K_enter (S := feet (M 0)) (K := M 0) Tryd.func90 rfl Tryd.ntmps90 rfl hM ?_
  refine TW.seq fun Y1 hY1 => ?_
  refine TW.region ?_
  refine TL.p Pu.as ?_
  refine TL.nil ?_
  refine TQ.thenN (hY1 _ _ ?_)
  refine TW.seq fun Y2 hY2 => ?_
  refine TW.seq fun Y3 hY3 => ?_
  refine TW.region ?_
  refine TL.p Pu.mv ?_
  refine TL.p (Pu.ln Tryd.underlying26) ?_
  refine TL.p Pu.mv ?_
  refine TL.nil ?_
  refine TQ.thenN (hY3 _ _ ?_)
  refine TW.block ?_
  refine TW.loop1 (fun (k : Nat) => [(8, .int .i64 (k : Int)), (7, .int .i64 (n : Int)), (0, .slice A n cp), (1, .func (.func g) fs.toArray cs.toArray)]) (fun k => M k) (fun k => k ≤ n ∧ ∀ j, j < k → p j = false) (fun k => n - k) 0 (by repeat (first | exact trivial | refine ⟨rfl, ?_⟩ | refine ⟨trivial, ?_⟩)) ?_ ?_ ?_
  · exact KSub.refl _
  · exact ⟨by omega, fun j hj => by omega⟩
  rintro k ⟨hk, hall⟩ Z0 hZ0
  refine TW.seq fun Y4 hY4 => ?_
  refine TW.region ?_
  refine TL.p Pu.lt ?_
  refine TL.nil ?_
  refine TQ.thenN (hY4 _ _ ?_)
  refine TW.seq fun Y5 hY5 => ?_
  refine TW.cond rfl (fun hc0 => ?_) (fun hc0 => ?_)
  · try simp only [decide_eq_true_eq, decide_eq_false_iff_not, Bool.not_eq_true', Bool.not_eq_false', Bool.and_eq_true, Bool.or_eq_true, Bool.and_eq_false_iff, Bool.or_eq_false_iff, Int.not_lt, Int.not_le] at hc0
    have hkn : k < n := by omega
    have hA := hA (by omega)
    refine TW.skip ?_
    refine TQ.thenN (hY5 _ _ ?_)
    refine TW.seq fun Y6 hY6 => ?_
    refine TW.block ?_
    refine TW.seq fun Y7 hY7 => ?_
    refine TW.region ?_
    refine TL.p Pu.mv ?_
    refine TL.p Pu.as ?_
    refine TL.nil ?_
    refine TQ.thenN (hY7 _ _ ?_)
    refine TW.seq fun Y8 hY8 => ?_
    refine TW.region ?_
    refine TL.p Pu.mv ?_
    refine TL.p Pu.mv ?_
    refine TL.p Pu.mv ?_
    refine TL.p (Pu.el ty_et26) ?_
    refine TL.p (Pu.lds ty_ag25) ?_
    refine TL.cvk rfl rfl hen (by rw [List.append_nil]) (fun w hw => by
        exact hg k (by omega) hall w hw) ?_
    intro _
    refine TL.nil ?_
    refine TQ.thenN (hY8 _ _ ?_)
    refine TW.cond rfl (fun hc1 => ?_) (fun hc1 => ?_)
    · try simp only [decide_eq_true_eq, decide_eq_false_iff_not, Bool.not_eq_true', Bool.not_eq_false', Bool.and_eq_true, Bool.or_eq_true, Bool.and_eq_false_iff, Bool.or_eq_false_iff, Int.not_lt, Int.not_le] at hc1
      refine TW.seq fun Y9 hY9 => ?_
      refine TW.region ?_
      refine TL.p Pu.mv ?_
      refine TL.p Pu.as ?_
      refine TL.nil ?_
      refine TQ.thenN (hY9 _ _ ?_)
      refine TW.ret ?_
      refine TQ.blkR ?_
      refine TQ.thenR ?_
      refine TQ.thenR ?_
      refine TQ.blkR ?_
      refine TQ.thenR ?_
      refine TQ.ret Tryd.results90 rfl ((.tmp rfl .nil)) ?_
      exact fun w hw => ⟨⟨k, by omega, hall, fun _ => hc1⟩, by simp [hkn]; rfl, by simpa [aft, hkn] using hw⟩
    · try simp only [decide_eq_true_eq, decide_eq_false_iff_not, Bool.not_eq_true', Bool.not_eq_false', Bool.and_eq_true, Bool.or_eq_true, Bool.and_eq_false_iff, Bool.or_eq_false_iff, Int.not_lt, Int.not_le] at hc1
      refine TW.skip ?_
      refine TQ.blkN ?_
      refine TQ.thenN (hY6 _ _ ?_)
      refine TW.region ?_
      refine TL.p Pu.ad ?_
      refine TL.p Pu.mv ?_
      refine TL.nil ?_
      refine TQ.thenN (hZ0 (k + 1) _ _ ?_ ?_ (by repeat (first | exact trivial | refine ⟨rfl, ?_⟩ | refine ⟨trivial, ?_⟩)) ?_)
      · refine ⟨by omega, fun j hj => ?_⟩
        by_cases h : j = k
        · subst h; exact hc1
        · exact hall j (by omega)
      · exact (by first | omega | (simp only []; omega) | (simp; omega))
      · rw [List.append_nil]; exact KSub.refl _
  · try simp only [decide_eq_true_eq, decide_eq_false_iff_not, Bool.not_eq_true', Bool.not_eq_false', Bool.and_eq_true, Bool.or_eq_true, Bool.and_eq_false_iff, Bool.or_eq_false_iff, Int.not_lt, Int.not_le] at hc0
    have hkn : k = n := by omega
    refine TW.exit ?_
    refine TQ.thenX ?_
    refine TQ.thenX ?_
    refine TQ.blkX ?_
    refine TQ.thenN (hY2 _ _ ?_)
    refine TW.seq fun Y10 hY10 => ?_
    refine TW.region ?_
    refine TL.p Pu.as ?_
    refine TL.nil ?_
    refine TQ.thenN (hY10 _ _ ?_)
    refine TW.ret ?_
    refine TQ.ret Tryd.results90 rfl ((.tmp rfl .nil)) ?_
    exact fun w hw => ⟨⟨k, by omega, hall, fun h => by omega⟩, by simp [hkn]; rfl, by simpa [aft, hkn] using hw⟩
theorem hasPack_st {g : FuncId} {fs cs : List Value} {A : Option Addr} {n cp : Nat} {v : Nat → Nat → Int} {p : Nat → Bool} {M : Nat → List Fact} {w : World} (hen : Enters Tryd.prog g) (hn : n ≤ 9223372036854775807)
    (hR : RdR w 11 A n (fun k => packL (v k))) (hA : 0 < n → Apart (feet (M 0)) A) (hM : Sat (feet (M 0)) w (M 0) w) (hfe : ∀ k, feet (M k) = feet (M 0))
    (hg : ∀ k, k < n → (∀ j, j < k → p j = false) → ∀ w', Sat (feet (M 0)) w (M k) w' → CallsK Tryd.prog g (fs ++ [Value.agg (packL (v k)).toArray] ++ cs).toArray (M k) w' Unit (fun _ => .bool (p k)) (fun _ => M (k + 1))) :
    CallsK Tryd.prog 76 #[.slice A n cp, .func (.func g) fs.toArray cs.toArray] (M 0) w (Fst p n) (fun x => .bool (decide (x.1 < n))) (fun x => M (aft n x.1)) := by
  refine K_enter (S := feet (M 0)) (K := M 0) Tryd.func76 rfl Tryd.ntmps76 rfl hM ?_
  refine TW.seq fun Y1 hY1 => ?_
  refine TW.region ?_
  refine TL.p Pu.as ?_
  refine TL.nil ?_
  refine TQ.thenN (hY1 _ _ ?_)
  refine TW.seq fun Y2 hY2 => ?_
  refine TW.region ?_
  refine TL.p Pu.mv ?_
  refine TL.p Pu.mv ?_
  refine TL.call rfl (enters Tryd.func90 rfl rfl) (by rw [List.append_nil]) rfl (fun w hw => by
      exact indexPack_any hen hn (hR.sat0 hw hA) hA hw.self hfe (fun k hk hp w' hw' => hg k hk hp w' (hw'.from hw.chg fun _ hb => .inl hb))) ?_
  intro x
  refine TL.p Pu.ge ?_
  refine TL.p Pu.as ?_
  refine TL.nil ?_
  refine TQ.thenN (hY2 _ _ ?_)
  refine TW.ret ?_
  refine TQ.ret Tryd.results76 rfl ((.tmp rfl .nil)) ?_
  exact fun w hw => ⟨x, by by_cases h : x.1 < n <;> simp [retV, h], by simpa using hw⟩
/-- The closure of 'every'. -/
theorem everyPack1_any {g : FuncId} {fs cs : List Value} {b : Nat} {u : Nat → Int} {p : Bool} {M L : List Fact} {w : World} (hen : Enters Tryd.prog g) (hb : OldB w b [.func (.func g) fs.toArray cs.toArray]) (hbM : b ∉ feet M) (hM : Sat (feet M) w M w)
    (hg : ∀ w', Sat (feet M) w M w' → CallsK Tryd.prog g (fs ++ [Value.agg (packL u).toArray] ++ cs).toArray M w' Unit (fun _ => .bool p) (fun _ => L)) :
    CallsK Tryd.prog 77 #[Value.agg (packL u).toArray, .pointer (some ⟨b, 0, none⟩)] M w Unit (fun _ => .bool (!p)) (fun _ => L) := by
  have hAp : Apart (feet M) (some ⟨b, 0, none⟩) := fun q hq => by cases hq; exact hbM
  refine K_enter (args := [Value.agg (packL u).toArray, .pointer (some ⟨b, 0, none⟩)]) (S := feet M) (K := M) Tryd.func77 rfl Tryd.ntmps77 rfl hM ?_
  refine TW.seq fun Y1 hY1 => ?_
  refine TW.region ?_
  refine TL.m Mk.bx ?_
  intro b1
  refine TL.p Pu.as ?_
  refine TL.nil ?_
  refine TQ.thenN (hY1 _ _ ?_)
  refine TW.seq fun Y2 hY2 => ?_
  refine TW.region ?_
  refine TL.p (by first | exact (Pu.ld ty_sc71) | exact (Pu.ldo ty_sc71)) ?_
  refine TL.p (by first | exact (Pu.lds ty_ag25) | exact (Pu.ldso ty_ag25)) ?_
  refine TL.cvk rfl rfl hen (List.perm_append_comm (l₁ := [_])) (fun w hw => by
      exact hg w (Has.sat ⟨[_], List.perm_append_comm (l₁ := [_])⟩ hw)) ?_
  intro _
  refine TL.p Pu.no ?_
  refine TL.p Pu.as ?_
  refine TL.nil ?_
  refine TQ.thenN (hY2 _ _ ?_)
  refine TW.ret ?_
  refine TQ.ret Tryd.results77 rfl ((.tmp rfl .nil)) ?_
  exact fun w hw => ⟨(), rfl, Has.sat ⟨[_], List.Perm.refl _⟩ hw⟩
theorem everyPack_st {g : FuncId} {fs cs : List Value} {A : Option Addr} {n cp : Nat} {v : Nat → Nat → Int} {p : Nat → Bool} {M : Nat → List Fact} {w : World} (hen : Enters Tryd.prog g) (hn : n ≤ 9223372036854775807)
    (hR : RdR w 11 A n (fun k => packL (v k))) (hA : 0 < n → Apart (feet (M 0)) A) (hM : Sat (feet (M 0)) w (M 0) w) (hfe : ∀ k, feet (M k) = feet (M 0))
    (hg : ∀ k, k < n → (∀ j, j < k → p j = true) → ∀ w', Sat (feet (M 0)) w (M k) w' → CallsK Tryd.prog g (fs ++ [Value.agg (packL (v k)).toArray] ++ cs).toArray (M k) w' Unit (fun _ => .bool (p k)) (fun _ => M (k + 1))) :
    CallsK Tryd.prog 38 #[.slice A n cp, .func (.func g) fs.toArray cs.toArray] (M 0) w (Fst (fun k => !p k) n) (fun x => .bool (!decide (x.1 < n))) (fun x => M (aft n x.1)) := by
  refine K_enter (S := feet (M 0)) (K := M 0) Tryd.func38 rfl Tryd.ntmps38 rfl hM ?_
  refine TW.seq fun Y1 hY1 => ?_
  refine TW.region ?_
  refine TL.m Mk.bx ?_
  intro b1
  refine TL.p Pu.as ?_
  refine TL.nil ?_
  refine TQ.thenN (hY1 _ _ ?_)
  refine TW.seq fun Y2 hY2 => ?_
  refine TW.region ?_
  refine TL.p Pu.mv ?_
  refine TL.p Pu.fn ?_
  refine TL.call rfl (enters Tryd.func76 rfl rfl) (List.perm_append_comm (l₁ := [_])) rfl (fun w hw => by
      have hB : Blk w b1 _ #[.func (.func g) fs.toArray cs.toArray] := hw.holds _ (List.mem_cons_self ..)
      have hbM : b1 ∉ feet (M 0) := fun hm => (List.nodup_cons.1 (show (b1 :: feet (M 0)).Nodup from hw.nd)).1 hm
      have hw2 : Sat (feet (M 0)) _ (M 0) w := Has.sat ⟨[_], List.perm_append_comm (l₁ := [_])⟩ hw
      refine hasPack_st (p := fun k => !p k) (fs := []) (cs := [.pointer (some ⟨b1, 0, none⟩)]) (enters Tryd.func77 rfl rfl) hn (hR.sat0 hw hA) hA hw2.self hfe (fun k hk hp w' hw' => ?_)
      have h1 : OldB w' b1 [.func (.func g) fs.toArray cs.toArray] := (OldB.of_blk (cs := [_]) hB).sat hw' hbM
      have h2 : Sat (feet (M k)) w' (M k) w' := hw'.self
      refine everyPack1_any (p := p k) (u := v k) hen h1 (by rw [hfe]; exact hbM) h2 fun w3 hw3 => hg k hk (fun j hj => by simpa using hp j hj) w3 ?_
      exact hw3.from (hw'.chg.trans' hw.chg) (fun q hq => .inl (by rw [← hfe k]; exact hq))) ?_
  intro x
  refine TL.p Pu.no ?_
  refine TL.p Pu.as ?_
  refine TL.nil ?_
  refine TQ.thenN (hY2 _ _ ?_)
  refine TW.ret ?_
  refine TQ.ret Tryd.results38 rfl ((.tmp rfl .nil)) ?_
  exact fun w hw => ⟨x, rfl, Has.sat ⟨[_], List.Perm.refl _⟩ hw⟩
theorem indexJolt_any {g : FuncId} {fs cs : List Value} {A : Option Addr} {n cp : Nat} {v : Nat → Nat → Int} {p : Nat → Bool} {M : Nat → List Fact} {w : World} (hen : Enters Tryd.prog g) (hn : n ≤ 9223372036854775807)
    (hR : RdR w 2 A n (fun k => spL (v k 0) (v k 1))) (hA : 0 < n → Apart (feet (M 0)) A) (hM : Sat (feet (M 0)) w (M 0) w) (hfe : ∀ k, feet (M k) = feet (M 0))
    (hg : ∀ k, k < n → (∀ j, j < k → p j = false) → ∀ w', Sat (feet (M 0)) w (M k) w' → CallsK Tryd.prog g (fs ++ [Value.agg (spL (v k 0) (v k 1)).toArray] ++ cs).toArray (M k) w' Unit (fun _ => .bool (p k)) (fun _ => M (k + 1))) :
    CallsK Tryd.prog 89 #[.slice A n cp, .func (.func g) fs.toArray cs.toArray] (M 0) w (Fst p n) (fun x => .int .i64 (if x.1 < n then (x.1 : Int) else -1)) (fun x => M (aft n x.1)) := by
  refine K_enter (S := feet (M 0)) (K := M 0) Tryd.func89 rfl Tryd.ntmps89 rfl hM ?_
  refine TW.seq fun Y1 hY1 => ?_
  refine TW.region ?_
  refine TL.p Pu.as ?_
  refine TL.nil ?_
  refine TQ.thenN (hY1 _ _ ?_)
  refine TW.seq fun Y2 hY2 => ?_
  refine TW.seq fun Y3 hY3 => ?_
  refine TW.region ?_
  refine TL.p Pu.mv ?_
  refine TL.p (Pu.ln Tryd.underlying28) ?_
  refine TL.p Pu.mv ?_
  refine TL.nil ?_
  refine TQ.thenN (hY3 _ _ ?_)
  refine TW.block ?_
  refine TW.loop1 (fun (k : Nat) => [(8, .int .i64 (k : Int)), (7, .int .i64 (n : Int)), (0, .slice A n cp), (1, .func (.func g) fs.toArray cs.toArray)]) (fun k => M k) (fun k => k ≤ n ∧ ∀ j, j < k → p j = false) (fun k => n - k) 0 (by repeat (first | exact trivial | refine ⟨rfl, ?_⟩ | refine ⟨trivial, ?_⟩)) ?_ ?_ ?_
  · exact KSub.refl _
  · exact ⟨by omega, fun j hj => by omega⟩
  rintro k ⟨hk, hall⟩ Z0 hZ0
  refine TW.seq fun Y4 hY4 => ?_
  refine TW.region ?_
  refine TL.p Pu.lt ?_
  refine TL.nil ?_
  refine TQ.thenN (hY4 _ _ ?_)
  refine TW.seq fun Y5 hY5 => ?_
  refine TW.cond rfl (fun hc0 => ?_) (fun hc0 => ?_)
  · try simp only [decide_eq_true_eq, decide_eq_false_iff_not, Bool.not_eq_true', Bool.not_eq_false', Bool.and_eq_true, Bool.or_eq_true, Bool.and_eq_false_iff, Bool.or_eq_false_iff, Int.not_lt, Int.not_le] at hc0
    have hkn : k < n := by omega
    have hA := hA (by omega)
    refine TW.skip ?_
    refine TQ.thenN (hY5 _ _ ?_)
    refine TW.seq fun Y6 hY6 => ?_
    refine TW.block ?_
    refine TW.seq fun Y7 hY7 => ?_
    refine TW.region ?_
    refine TL.p Pu.mv ?_
    refine TL.p Pu.as ?_
    refine TL.nil ?_
    refine TQ.thenN (hY7 _ _ ?_)
    refine TW.seq fun Y8 hY8 => ?_
    refine TW.region ?_
    refine TL.p Pu.mv ?_
    refine TL.p Pu.mv ?_
    refine TL.p Pu.mv ?_
    refine TL.p (Pu.el ty_et28) ?_
    refine TL.p (Pu.lds ty_ag44) ?_
    refine TL.cvk rfl rfl hen (by rw [List.append_nil]) (fun w hw => by
        exact hg k (by omega) hall w hw) ?_
    intro _
    refine TL.nil ?_
    refine TQ.thenN (hY8 _ _ ?_)
    refine TW.cond rfl (fun hc1 => ?_) (fun hc1 => ?_)
    · try simp only [decide_eq_true_eq, decide_eq_false_iff_not, Bool.not_eq_true', Bool.not_eq_false', Bool.and_eq_true, Bool.or_eq_true, Bool.and_eq_false_iff, Bool.or_eq_false_iff, Int.not_lt, Int.not_le] at hc1
      refine TW.seq fun Y9 hY9 => ?_
      refine TW.region ?_
      refine TL.p Pu.mv ?_
      refine TL.p Pu.as ?_
      refine TL.nil ?_
      refine TQ.thenN (hY9 _ _ ?_)
      refine TW.ret ?_
      refine TQ.blkR ?_
      refine TQ.thenR ?_
      refine TQ.thenR ?_
      refine TQ.blkR ?_
      refine TQ.thenR ?_
      refine TQ.ret Tryd.results89 rfl ((.tmp rfl .nil)) ?_
      exact fun w hw => ⟨⟨k, by omega, hall, fun _ => hc1⟩, by simp [hkn]; rfl, by simpa [aft, hkn] using hw⟩
    · try simp only [decide_eq_true_eq, decide_eq_false_iff_not, Bool.not_eq_true', Bool.not_eq_false', Bool.and_eq_true, Bool.or_eq_true, Bool.and_eq_false_iff, Bool.or_eq_false_iff, Int.not_lt, Int.not_le] at hc1
      refine TW.skip ?_
      refine TQ.blkN ?_
      refine TQ.thenN (hY6 _ _ ?_)
      refine TW.region ?_
      refine TL.p Pu.ad ?_
      refine TL.p Pu.mv ?_
      refine TL.nil ?_
      refine TQ.thenN (hZ0 (k + 1) _ _ ?_ ?_ (by repeat (first | exact trivial | refine ⟨rfl, ?_⟩ | refine ⟨trivial, ?_⟩)) ?_)
      · refine ⟨by omega, fun j hj => ?_⟩
        by_cases h : j = k
        · subst h; exact hc1
        · exact hall j (by omega)
      · exact (by first | omega | (simp only []; omega) | (simp; omega))
      · rw [List.append_nil]; exact KSub.refl _
  · try simp only [decide_eq_true_eq, decide_eq_false_iff_not, Bool.not_eq_true', Bool.not_eq_false', Bool.and_eq_true, Bool.or_eq_true, Bool.and_eq_false_iff, Bool.or_eq_false_iff, Int.not_lt, Int.not_le] at hc0
    have hkn : k = n := by omega
    refine TW.exit ?_
    refine TQ.thenX ?_
    refine TQ.thenX ?_
    refine TQ.blkX ?_
    refine TQ.thenN (hY2 _ _ ?_)
    refine TW.seq fun Y10 hY10 => ?_
    refine TW.region ?_
    refine TL.p Pu.as ?_
    refine TL.nil ?_
    refine TQ.thenN (hY10 _ _ ?_)
    refine TW.ret ?_
    refine TQ.ret Tryd.results89 rfl ((.tmp rfl .nil)) ?_
    exact fun w hw => ⟨⟨k, by omega, hall, fun h => by omega⟩, by simp [hkn]; rfl, by simpa [aft, hkn] using hw⟩
theorem hasJolt_st {g : FuncId} {fs cs : List Value} {A : Option Addr} {n cp : Nat} {v : Nat → Nat → Int} {p : Nat → Bool} {M : Nat → List Fact} {w : World} (hen : Enters Tryd.prog g) (hn : n ≤ 9223372036854775807)
    (hR : RdR w 2 A n (fun k => spL (v k 0) (v k 1))) (hA : 0 < n → Apart (feet (M 0)) A) (hM : Sat (feet (M 0)) w (M 0) w) (hfe : ∀ k, feet (M k) = feet (M 0))
    (hg : ∀ k, k < n → (∀ j, j < k → p j = false) → ∀ w', Sat (feet (M 0)) w (M k) w' → CallsK Tryd.prog g (fs ++ [Value.agg (spL (v k 0) (v k 1)).toArray] ++ cs).toArray (M k) w' Unit (fun _ => .bool (p k)) (fun _ => M (k + 1))) :
    CallsK Tryd.prog 74 #[.slice A n cp, .func (.func g) fs.toArray cs.toArray] (M 0) w (Fst p n) (fun x => .bool (decide (x.1 < n))) (fun x => M (aft n x.1)) := by
  refine K_enter (S := feet (M 0)) (K := M 0) Tryd.func74 rfl Tryd.ntmps74 rfl hM ?_
  refine TW.seq fun Y1 hY1 => ?_
  refine TW.region ?_
  refine TL.p Pu.as ?_
  refine TL.nil ?_
  refine TQ.thenN (hY1 _ _ ?_)
  refine TW.seq fun Y2 hY2 => ?_
  refine TW.region ?_
  refine TL.p Pu.mv ?_
  refine TL.p Pu.mv ?_
  refine TL.call rfl (enters Tryd.func89 rfl rfl) (by rw [List.append_nil]) rfl (fun w hw => by
      exact indexJolt_any hen hn (hR.sat0 hw hA) hA hw.self hfe (fun k hk hp w' hw' => hg k hk hp w' (hw'.from hw.chg fun _ hb => .inl hb))) ?_
  intro x
  refine TL.p Pu.ge ?_
  refine TL.p Pu.as ?_
  refine TL.nil ?_
  refine TQ.thenN (hY2 _ _ ?_)
  refine TW.ret ?_
  refine TQ.ret Tryd.results74 rfl ((.tmp rfl .nil)) ?_
  exact fun w hw => ⟨x, by by_cases h : x.1 < n <;> simp [retV, h], by simpa using hw⟩
/-- The closure of 'every'. -/
theorem everyJolt1_any {g : FuncId} {fs cs : List Value} {b : Nat} {u : Nat → Int} {p : Bool} {M L : List Fact} {w : World} (hen : Enters Tryd.prog g) (hb : OldB w b [.func (.func g) fs.toArray cs.toArray]) (hbM : b ∉ feet M) (hM : Sat (feet M) w M w)
    (hg : ∀ w', Sat (feet M) w M w' → CallsK Tryd.prog g (fs ++ [Value.agg (spL (u 0) (u 1)).toArray] ++ cs).toArray M w' Unit (fun _ => .bool p) (fun _ => L)) :
    CallsK Tryd.prog 75 #[Value.agg (spL (u 0) (u 1)).toArray, .pointer (some ⟨b, 0, none⟩)] M w Unit (fun _ => .bool (!p)) (fun _ => L) := by
  have hAp : Apart (feet M) (some ⟨b, 0, none⟩) := fun q hq => by cases hq; exact hbM
  refine K_enter (args := [Value.agg (spL (u 0) (u 1)).toArray, .pointer (some ⟨b, 0, none⟩)]) (S := feet M) (K := M) Tryd.func75 rfl Tryd.ntmps75 rfl hM ?_
  refine TW.seq fun Y1 hY1 => ?_
  refine TW.region ?_
  refine TL.m Mk.bx ?_
  intro b1
  refine TL.p Pu.as ?_
  refine TL.nil ?_
  refine TQ.thenN (hY1 _ _ ?_)
  refine TW.seq fun Y2 hY2 => ?_
  refine TW.region ?_
  refine TL.p (by first | exact (Pu.ld ty_sc83) | exact (Pu.ldo ty_sc83)) ?_
  refine TL.p (by first | exact (Pu.lds ty_ag44) | exact (Pu.ldso ty_ag44)) ?_
  refine TL.cvk rfl rfl hen (List.perm_append_comm (l₁ := [_])) (fun w hw => by
      exact hg w (Has.sat ⟨[_], List.perm_append_comm (l₁ := [_])⟩ hw)) ?_
  intro _
  refine TL.p Pu.no ?_
  refine TL.p Pu.as ?_
  refine TL.nil ?_
  refine TQ.thenN (hY2 _ _ ?_)
  refine TW.ret ?_
  refine TQ.ret Tryd.results75 rfl ((.tmp rfl .nil)) ?_
  exact fun w hw => ⟨(), rfl, Has.sat ⟨[_], List.Perm.refl _⟩ hw⟩
theorem everyJolt_st {g : FuncId} {fs cs : List Value} {A : Option Addr} {n cp : Nat} {v : Nat → Nat → Int} {p : Nat → Bool} {M : Nat → List Fact} {w : World} (hen : Enters Tryd.prog g) (hn : n ≤ 9223372036854775807)
    (hR : RdR w 2 A n (fun k => spL (v k 0) (v k 1))) (hA : 0 < n → Apart (feet (M 0)) A) (hM : Sat (feet (M 0)) w (M 0) w) (hfe : ∀ k, feet (M k) = feet (M 0))
    (hg : ∀ k, k < n → (∀ j, j < k → p j = true) → ∀ w', Sat (feet (M 0)) w (M k) w' → CallsK Tryd.prog g (fs ++ [Value.agg (spL (v k 0) (v k 1)).toArray] ++ cs).toArray (M k) w' Unit (fun _ => .bool (p k)) (fun _ => M (k + 1))) :
    CallsK Tryd.prog 34 #[.slice A n cp, .func (.func g) fs.toArray cs.toArray] (M 0) w (Fst (fun k => !p k) n) (fun x => .bool (!decide (x.1 < n))) (fun x => M (aft n x.1)) := by
  refine K_enter (S := feet (M 0)) (K := M 0) Tryd.func34 rfl Tryd.ntmps34 rfl hM ?_
  refine TW.seq fun Y1 hY1 => ?_
  refine TW.region ?_
  refine TL.m Mk.bx ?_
  intro b1
  refine TL.p Pu.as ?_
  refine TL.nil ?_
  refine TQ.thenN (hY1 _ _ ?_)
  refine TW.seq fun Y2 hY2 => ?_
  refine TW.region ?_
  refine TL.p Pu.mv ?_
  refine TL.p Pu.fn ?_
  refine TL.call rfl (enters Tryd.func74 rfl rfl) (List.perm_append_comm (l₁ := [_])) rfl (fun w hw => by
      have hB : Blk w b1 _ #[.func (.func g) fs.toArray cs.toArray] := hw.holds _ (List.mem_cons_self ..)
      have hbM : b1 ∉ feet (M 0) := fun hm => (List.nodup_cons.1 (show (b1 :: feet (M 0)).Nodup from hw.nd)).1 hm
      have hw2 : Sat (feet (M 0)) _ (M 0) w := Has.sat ⟨[_], List.perm_append_comm (l₁ := [_])⟩ hw
      refine hasJolt_st (p := fun k => !p k) (fs := []) (cs := [.pointer (some ⟨b1, 0, none⟩)]) (enters Tryd.func75 rfl rfl) hn (hR.sat0 hw hA) hA hw2.self hfe (fun k hk hp w' hw' => ?_)
      have h1 : OldB w' b1 [.func (.func g) fs.toArray cs.toArray] := (OldB.of_blk (cs := [_]) hB).sat hw' hbM
      have h2 : Sat (feet (M k)) w' (M k) w' := hw'.self
      refine everyJolt1_any (p := p k) (u := v k) hen h1 (by rw [hfe]; exact hbM) h2 fun w3 hw3 => hg k hk (fun j hj => by simpa using hp j hj) w3 ?_
      exact hw3.from (hw'.chg.trans' hw.chg) (fun q hq => .inl (by rw [← hfe k]; exact hq))) ?_
  intro x
  refine TL.p Pu.no ?_
  refine TL.p Pu.as ?_
  refine TL.nil ?_
  refine TQ.thenN (hY2 _ _ ?_)
  refine TW.ret ?_
  refine TQ.ret Tryd.results34 rfl ((.tmp rfl .nil)) ?_
  exact fun w hw => ⟨x, rfl, Has.sat ⟨[_], List.Perm.refl _⟩ hw⟩
end Go.Proofs.YtagcnokaajinlaaDoor
