/-
  Part 5 of the proof of leaderReads_holds: declarations of several texts, in build order. No condition on a program.
-/
import Derived.Test.YtfgnbkegdjkdmaaGreatDoorlr104
import Derived.Test.YtfgnbkegdjkdmaaGreatDoorlr101
import Derived.Test.YtfgnbkegdjkdmaaGreatDoorlr103
namespace Go.Proofs.YtfgnbkegdjkdmaaGreatDoor
set_option linter.all false
set_option linter.unusedVariables false
set_option linter.unusedSimpArgs false
open Go.RowKit Go.Lib
theorem bun_add {S : List Nat} {w0 w : World} {φ : Fact} {K1 K : List Fact} (h : Sat S w0 (φ :: bun K1 :: K) w) : Sat S w0 (bun (K1 ++ [φ]) :: K) w := by
 have e : feet (φ :: bun K1 :: K) = φ.foot ++ (feet K1 ++ feet K) := rfl
 have e2 : feet (bun (K1 ++ [φ]) :: K) = feet K1 ++ φ.foot ++ feet K := by
   show feet (K1 ++ [φ]) ++ feet K = _
   rw [feet_append]
   simp [feet]
 have hp : (feet (φ :: bun K1 :: K)).Perm (feet (bun (K1 ++ [φ]) :: K)) := by
   rw [e, e2, ← List.append_assoc]
   exact List.perm_append_comm.append_right _
 refine ⟨h.chg, hp.nodup_iff.1 h.nd, fun b hb => h.ge b (hp.mem_iff.2 hb), fun ψ hψ => ?_⟩
 rcases List.mem_cons.1 hψ with rfl | hψ
 · refine bun_holds fun ψ hψ => ?_
   rcases List.mem_append.1 hψ with h1 | h1
   · exact (h.holds (bun K1) (by simp)).now ψ h1
   · rw [List.mem_singleton.1 h1]
     exact h.holds φ (by simp)
 · exact h.holds ψ (by simp [hψ])
structure Lg where
 A : Option Addr
 c : Nat
 es : List (Ent × Option Addr × Nat)
def enD : Ent × Option Addr × Nat := (⟨0, [], []⟩, none, 0)
def enT (es : List (Ent × Option Addr × Nat)) : Nat → List Value := fun i => enL (es.getD i enD).1 (es.getD i enD).2.1 (es.getD i enD).2.2
def agF (es : List (Ent × Option Addr × Nat)) : List Fact := es.map fun x => .own x.2.1 x.1.args.length x.2.2 3 1 (iL x.1.args)
def Lg.cont (S : Lg) : Cont := ⟨[], [], S.es.map (·.1)⟩
def lgM (b : Nat) (S : Lg) : List Fact := [.blk b 31 [.slice S.A S.es.length S.c], .own S.A S.es.length S.c 62 3 (enT S.es), bun (agF S.es)]
theorem enT_app {es : List (Ent × Option Addr × Nat)} {x : Ent × Option Addr × Nat} {n : Nat} (hn : n = es.length) : ∀ i, i < n + 1 → catR n (enT es) (fun _ => enL x.1 x.2.1 x.2.2) i = enT (es ++ [x]) i := fun i hi => by
 subst hn
 show (if i < es.length then enL (es.getD i enD).1 (es.getD i enD).2.1 (es.getD i enD).2.2 else enL x.1 x.2.1 x.2.2) = enL ((es ++ [x]).getD i enD).1 ((es ++ [x]).getD i enD).2.1 ((es ++ [x]).getD i enD).2.2
 rw [getD_snoc9 hi]
 split <;> rfl
theorem lgM_app {b c : Nat} {A : Option Addr} {es : List (Ent × Option Addr × Nat)} {x : Ent × Option Addr × Nat} : lgM b ⟨A, c, es ++ [x]⟩ = [.blk b 31 [.slice A (es.length + 1) c], .own A (es.length + 1) c 62 3 (enT (es ++ [x])), bun (agF es ++ [.own x.2.1 x.1.args.length x.2.2 3 1 (iL x.1.args)])] := by
 simp only [lgM, agF, List.length_append, List.length_cons, List.length_nil, Nat.zero_add, List.map_append, List.map_cons, List.map_nil]
section
variable {S : Lg}
theorem addG_cons {c : Cont} {f d w : List UInt8} {l : List (List UInt8)} : addG c (f :: d :: w :: l) = if f = [68] ∧ c.log.length ≠ 200 then (valL d).bind fun day => (nmsL l).bind fun args => if cmB w args.length then some { c with log := c.log ++ [⟨day, w, args⟩] } else none else none := rfl
theorem tkG_no {ls : List (List UInt8)} (h : ls.getD 0 [] ≠ [68] ∨ ls.length < 3 ∨ S.es.length = 200) (c' : Cont) : TkR true S.cont ls false c' := by
  have e : addL true S.cont ls = none := by
    show addG S.cont ls = none
    match ls, h with
    | [], _ => rfl
    | [_], _ => rfl
    | [_, _], _ => rfl
    | f :: d :: w :: l, h =>
      rw [addG_cons, if_neg]
      rintro ⟨h1, h2⟩
      rcases h with h | h | h
      · exact h h1
      · simp at h; omega
      · exact h2 (by show (S.es.map (·.1)).length = 200; rw [List.length_map]; exact h)
  unfold TkR
  rw [e]
theorem addG_go {d w : List UInt8} {l : List (List UInt8)} (h : S.es.length ≠ 200) : addL true S.cont ([68] :: d :: w :: l) = (valL d).bind fun day => (nmsL l).bind fun args => if cmB w args.length then some { S.cont with log := S.es.map (·.1) ++ [⟨day, w, args⟩] } else none := by
 show addG S.cont ([68] :: d :: w :: l) = _
 rw [addG_cons, if_pos ⟨rfl, by show (S.es.map (·.1)).length ≠ 200; rw [List.length_map]; exact h⟩]
 rfl
theorem nm_one {d : List UInt8} {ok : Bool} {ms : List Int} (h : NmR [d] ok ms) : (ok = true ∧ ∃ k, valL d = some k ∧ ms = [k]) ∨ (ok = false ∧ valL d = none ∧ ms = []) := by
 cases h1 : valL d with
 | none =>
  have e : nmsL [d] = none := by unfold nmsL; rw [h1]; rfl
  rcases h with ⟨_, h⟩ | ⟨h2, _, h3⟩
  · rw [e] at h; cases h
  · exact .inr ⟨h2, rfl, h3⟩
 | some k =>
  have e : nmsL [d] = some [k] := by unfold nmsL; rw [h1]; rfl
  rcases h with ⟨h2, h⟩ | ⟨_, h, _⟩
  · rw [e] at h; exact .inl ⟨h2, k, rfl, (Option.some.inj h).symm⟩
  · rw [e] at h; cases h
theorem tkG_bad {d w : List UInt8} {l : List (List UInt8)} {ok1 ok2 : Bool} {m1 m2 : List Int} (h : S.es.length ≠ 200) (h1 : NmR [d] ok1 m1) (h2 : NmR l ok2 m2) (hb : ok1 = false ∨ ok2 = false ∨ cmB w m2.length = false) (c' : Cont) : TkR true S.cont ([68] :: d :: w :: l) false c' := by
 have e : addL true S.cont ([68] :: d :: w :: l) = none := by
  rw [addG_go h]
  rcases nm_one h1 with ⟨a1, k, a2, a3⟩ | ⟨a1, a2, a3⟩
  · rw [a2]
    rcases h2 with ⟨b1, b2⟩ | ⟨b1, b2, b3⟩
    · rw [b2]
      rcases hb with hb | hb | hb
      · rw [a1] at hb; cases hb
      · rw [b1] at hb; cases hb
      · show (if cmB w m2.length = true then _ else none) = none
        rw [hb]; rfl
    · rw [b2]; rfl
  · rw [a2]; rfl
 unfold TkR
 rw [e]
theorem tkG_good {d w : List UInt8} {l : List (List UInt8)} {k : Int} {m2 : List Int} (h : S.es.length ≠ 200) (h1 : NmR [d] true [k]) (h2 : NmR l true m2) (hb : cmB w m2.length = true) : TkR true S.cont ([68] :: d :: w :: l) true ⟨[], [], S.es.map (·.1) ++ [⟨k, w, m2⟩]⟩ := by
 have e : addL true S.cont ([68] :: d :: w :: l) = some ⟨[], [], S.es.map (·.1) ++ [⟨k, w, m2⟩]⟩ := by
  rw [addG_go h]
  rcases nm_one h1 with ⟨a1, k', a2, a3⟩ | ⟨a1, a2, a3⟩
  · rw [a2]
    cases a3
    rw [nm_yes h2 rfl]
    show (if cmB w m2.length = true then _ else none) = _
    rw [hb]; rfl
  · cases a1
 unfold TkR
 rw [e]
 exact ⟨rfl, rfl⟩
set_option maxRecDepth 100000 in
set_option maxHeartbeats 4000000 in
theorem takeG_any {b n cp : Nat} {f : List UInt8} {l0 : List (List UInt8)} {A : Option Addr} {w : World} (hE : RdW w) (hn : n = l0.length + 1) (hl : l0.length ≤ 100000) (hx : ∀ x, x ∈ l0 → x.length ≤ 100000) (hcp : n ≤ cp) (hS : CtOk S.cont)
    (hM : Sat (feet (lgM b S)) w (lgM b S) w) (hF : Far (feet (lgM b S))) (hW : RdR w 1 A n (strL (f :: l0))) (hA : Apart (feet (lgM b S)) A) :
    CallsK Tryz.prog 16 #[.slice A n cp, .pointer (some ⟨b, 0, none⟩)] (lgM b S) w { x : Bool × Lg // TkR true S.cont (f :: l0) x.1 x.2.cont } (fun x => .bool x.1.1) (fun x => lgM b x.1.2) := by
  have hS1 : S.es.length ≤ 200 := by have h1 := hS.2; rw [show S.cont.log = S.es.map (·.1) from rfl, List.length_map] at h1; exact h1
  refine K_enter (S := feet (lgM b S)) (K := [.blk b 31 [.slice S.A S.es.length S.c], .own S.A S.es.length S.c 62 3 (enT S.es), bun (agF S.es)]) Tryz.func16 rfl Tryz.ntmps16 rfl hM ?_
  refine TW.seq fun Y1 hY1 => TW.region ?_
  refine TL.p Pu.as ?_
  refine TL.nil (TQ.thenN (hY1 _ _ ?_))
  refine TW.seq fun Y2 hY2 => ?_
  refine TW.seq fun Y3 hY3 => ?_
  refine TW.join [(21, .bool (!decide (f = [68]) || decide ((n : Int) < 3) || decide ((S.es.length : Int) = 200)))] ?_ (fun hJ1 => ?_)
  refine TQ.thenN (hY3 _ _ ?_)
  refine TW.cond rfl (fun hc0 => ?_) (fun hc0 => ?_)
  try simp only [zcb9] at hc0
  have hno := tkG_no (S := S) (ls := f :: l0) (by
    rcases hc0 with (h | h) | h
    exact .inl h
    exact .inr (.inl (by rw [List.length_cons]; omega))
    exact .inr (.inr (by omega)))
  refine TW.seq fun Y4 hY4 => TW.region ?_
  refine TL.p Pu.as ?_
  refine TL.nil (TQ.thenN (hY4 _ _ ?_))
  refine TW.ret ?_
  refine TQ.thenR ?_
  refine TQ.ret Tryz.results16 rfl ((.tmp rfl .nil)) ?_
  exact fun w hw => ⟨⟨(false, S), hno _⟩, rfl, hw.sub ks9⟩
  try simp only [zcb9] at hc0
  obtain ⟨⟨rfl, h3⟩, h200⟩ := hc0
  obtain ⟨d, x, l, rfl⟩ : ∃ d x l, l0 = d :: x :: l := by
    match l0, hn with
    | [], hn => simp at hn; omega
    | [_], hn => simp at hn; omega
    | d :: x :: l, _ => exact ⟨d, x, l, rfl⟩
  simp only [List.length_cons] at hn hl
  obtain ⟨ok1, m1, hN1⟩ := nmR_ex [d]
  obtain ⟨ok2, m2, hN2⟩ := nmR_ex l
  have hm2 := hN2.len
  refine TW.skip ?_
  refine TQ.thenN (hY2 _ _ ?_)
  refine TW.seq fun Y5 hY5 => TW.region ?_
  refine TL.p Pu.mv ?_
  refine TL.p (Pu.sm ty_et41) ?_
  refine TL.call (M := []) rfl (enters Tryz.func12 rfl rfl) (List.Perm.refl _) rfl (fun w hw => by
      exact numbers_any (ls := [d]) (hE.sat hw hF) hN1 rfl (by simp) (fun y hy => hx y (by rw [List.mem_singleton.1 hy]; simp)) ((((hW.sat hw hA).tail (q := 1) hcp (by omega)).less (m := 2 - 1) (by omega)).same fun i hi => by (obtain rfl : i = 0 := by omega); rfl)) ?_
  rintro ⟨B1, e1⟩
  refine TL.p Pu.mv ?_
  refine TL.p Pu.ex ?_
  refine TL.p Pu.ex ?_
  refine TL.p Pu.as ?_
  refine TL.p Pu.as ?_
  refine TL.nil (TQ.thenN (hY5 _ _ ?_))
  refine TW.seq fun Y6 hY6 => TW.region ?_
  refine TL.p Pu.mv ?_
  refine TL.p (Pu.sf ty_et41) ?_
  refine TL.call (M := []) rfl (enters Tryz.func12 rfl rfl) (List.Perm.refl _) rfl (fun w hw => by
      exact numbers_any (ls := l) (hE.sat hw hF) hN2 (by omega) (by omega) (fun y hy => hx y (by simp [hy])) (((hW.sat hw hA).tail (q := 3) hcp (by omega)).same fun i hi => by simp only [strL]; rw [Nat.add_comm]; rfl)) ?_
  rintro ⟨B2, e2⟩
  refine TL.p Pu.mv ?_
  refine TL.p Pu.ex ?_
  refine TL.p Pu.ex ?_
  refine TL.p Pu.as ?_
  refine TL.p Pu.as ?_
  refine TL.nil (TQ.thenN (hY6 _ _ ?_))
  refine TW.seq fun Y7 hY7 => ?_
  refine TW.seq fun Y8 hY8 => ?_
  refine TW.join [(47, .bool (!ok1 || !ok2 || !cmB x m2.length))] ?_ (fun hJ2 => ?_)
  refine TQ.thenN (hY8 _ _ ?_)
  refine TW.cond rfl (fun hc1 => ?_) (fun hc1 => ?_)
  try simp only [zcb9] at hc1
  have hno := tkG_bad (S := S) (w := x) (by omega) hN1 hN2 (by
    rcases hc1 with (h | h) | h
    exact .inl (by simpa using h)
    exact .inr (.inl (by simpa using h))
    exact .inr (.inr (by simpa using h)))
  refine TW.seq fun Y9 hY9 => TW.region ?_
  refine TL.p Pu.as ?_
  refine TL.nil (TQ.thenN (hY9 _ _ ?_))
  refine TW.ret ?_
  refine TQ.thenR ?_
  refine TQ.ret Tryz.results16 rfl ((.tmp rfl .nil)) ?_
  exact fun w hw => ⟨⟨(false, S), hno _⟩, rfl, hw.sub ks9⟩
  try simp only [zcb9] at hc1
  obtain ⟨⟨ho1, ho2⟩, ho3⟩ : (ok1 = true ∧ ok2 = true) ∧ cmB x m2.length = true := by simpa using hc1
  obtain ⟨k, rfl⟩ : ∃ k, m1 = [k] := by
    rcases nm_one hN1 with ⟨_, k, _, h⟩ | ⟨h, _, _⟩
    exact ⟨k, h⟩
    rw [h] at ho1; cases ho1
  subst ho1
  subst ho2
  have hgo := tkG_good (S := S) (by omega) hN1 hN2 ho3
  have hS3 : S.es.length + 1 ≤ 201 := by omega
  rw [show ([k] : List Int).length = 1 from rfl]
  refine TW.skip ?_
  refine TQ.thenN (hY7 _ _ ?_)
  refine TW.seq fun Y10 hY10 => ?_
  refine TW.dw 10 ?_
  refine RK.tk (by first | exact (Pu.ld ty_sc31) | exact (Pu.ldo ty_sc31)) ?_
  refine RK.tk Pu.mv ?_
  refine RK.tk (Pu.el (q := 0) ty_et42 (hk := rfl)) ?_
  refine RK.tk (Pu.iv (a := ([k] : List Int).getD 0 0) (b := k) (Pu.ld ty_sc3) rfl) ?_
  refine RK.tk Pu.mv ?_
  refine RK.tk (Pu.el (q := 2) ty_et41 (hk := rfl)) ?_
  refine RK.tk (Pu.sw (a := ([68] :: d :: x :: l).getD 2 []) (b := x) (Pu.ld ty_sc9) rfl) ?_
  refine RK.tk Pu.mv ?_
  refine RK.tk (Pu.bd (v := .agg #[.int .i64 k, sv x, .slice B2 m2.length e2]) rfl (by intro w; simp only [sv]; go_simp)) ?_
  refine RK.keep ?_
  refine RK.ch [false] ?_ trivial
  refine WK.m Mk.bl ?_
  intro b1
  refine WK.n ?_
  first | refine TL.a0 ty_et31 ?_ | refine TL.ap ty_et31 ?_
  intro A2 c2
  first | refine TL.st ty_sz31 ?_ | refine TL.se ty_sz31 ?_
  refine TL.nil (TQ.thenN (hY10 _ _ ?_))
  refine TW.seq fun Y11 hY11 => TW.region ?_
  refine TL.p Pu.as ?_
  refine TL.nil (TQ.thenN (hY11 _ _ ?_))
  refine TW.ret ?_
  refine TQ.ret Tryz.results16 rfl ((.tmp rfl .nil)) ?_
  intro w hw
  refine ⟨⟨(true, ⟨A2, c2, S.es ++ [(⟨k, x, m2⟩, B2, e2)]⟩), ?_⟩, rfl, ?_⟩
  have e9 : (⟨A2, c2, S.es ++ [(⟨k, x, m2⟩, B2, e2)]⟩ : Lg).cont = ⟨[], [], S.es.map (·.1) ++ [⟨k, x, m2⟩]⟩ := by simp only [Lg.cont, List.map_append, List.map_cons, List.map_nil]
  rw [e9]
  exact hgo
  show Sat _ _ (lgM b ⟨A2, c2, S.es ++ [(⟨k, x, m2⟩, B2, e2)]⟩) _
  rw [lgM_app]
  have h9 := hw.sub (L := [.own B2 m2.length e2 3 1 (iL m2), bun (agF S.es), .blk b 31 [.slice A2 (S.es.length + 1) c2], .own A2 (S.es.length + 1) c2 62 3 (enT (S.es ++ [(⟨k, x, m2⟩, B2, e2)]))]) (KSub.cons pk9 (KSub.cons pk9 (KSub.cons pk9 (KSub.own pk9 (enT_app rfl) KSub.nil))))
  exact (bun_add h9).sub (KSub.cons pk9 (KSub.cons pk9 (KSub.cons pk9 KSub.nil)))
  refine TW.region ?_
  refine TL.p Pu.mv ?_
  refine TL.p Pu.no ?_
  refine TL.p Pu.mv ?_
  refine TL.guard (t := 36) rfl (fun hg1 => ?_) (fun hg1 => ?_)
  refine TL.gs ?_
  refine TL.gs ?_
  refine TL.p Pu.kt ?_
  refine TL.p Pu.mv ?_
  refine TL.gs ?_
  refine TL.gs ?_
  refine TL.gs ?_
  refine TL.gs ?_
  refine TL.gs ?_
  refine TL.gs ?_
  refine TL.p Pu.kt ?_
  refine TL.nil ?_
  exact TQ.sub (by repeat (first | exact trivial | refine ⟨rfl, ?_⟩ | refine ⟨trivial, ?_⟩ | refine ⟨(by show some (Value.bool _) = some (Value.bool _); first | (simp [hg1]; done) | (refine congrArg (fun z => some (Value.bool z)) (Bool.eq_iff_iff.2 ?_); simp [hg1]; omega)), ?_⟩)) ks9 hJ2
  refine TL.gd Pu.mv ?_
  refine TL.gd Pu.no ?_
  refine TL.p Pu.kf ?_
  refine TL.p Pu.mv ?_
  refine TL.guard (t := 40) rfl (fun hg2 => ?_) (fun hg2 => ?_)
  refine TL.gs ?_
  refine TL.gs ?_
  refine TL.gs ?_
  refine TL.gs ?_
  refine TL.gs ?_
  refine TL.gs ?_
  refine TL.p Pu.kt ?_
  refine TL.nil ?_
  exact TQ.sub (by repeat (first | exact trivial | refine ⟨rfl, ?_⟩ | refine ⟨trivial, ?_⟩ | refine ⟨(by show some (Value.bool _) = some (Value.bool _); first | (simp [hg1, hg2]; done) | (refine congrArg (fun z => some (Value.bool z)) (Bool.eq_iff_iff.2 ?_); simp [hg1, hg2]; omega)), ?_⟩)) ks9 hJ2
  refine TL.gd Pu.mv ?_
  refine TL.gd (Pu.el (q := 2) ty_et41 (hk := rfl)) ?_
  refine TL.gd (Pu.sw (a := ([68] :: d :: x :: l).getD 2 []) (b := x) (Pu.ld ty_sc9) rfl) ?_
  refine TL.gd Pu.mv ?_
  refine TL.cr rfl (enters Tryz.func17 rfl rfl) (fun w hw => by
      exact known_any (by omega)) ?_
  refine TL.gd Pu.no ?_
  refine TL.p Pu.kf ?_
  refine TL.nil ?_
  exact TQ.sub (by repeat (first | exact trivial | refine ⟨rfl, ?_⟩ | refine ⟨trivial, ?_⟩ | refine ⟨(by show some (Value.bool _) = some (Value.bool _); first | (simp [hg1, hg2]; done) | (refine congrArg (fun z => some (Value.bool z)) (Bool.eq_iff_iff.2 ?_); simp [hg1, hg2]; omega)), ?_⟩)) ks9 hJ2
  refine TW.region ?_
  refine TL.p Pu.mv ?_
  refine TL.p (Pu.el (q := 0) ty_et41 (hk := rfl)) ?_
  refine TL.p (Pu.sw (a := (f :: l0).getD 0 []) (b := f) (Pu.ld ty_sc9) rfl) ?_
  refine TL.p Pu.sne ?_
  refine TL.p Pu.mv ?_
  refine TL.guard (t := 12) rfl (fun hg3 => ?_) (fun hg3 => ?_)
  refine TL.gs ?_
  refine TL.gs ?_
  refine TL.gs ?_
  refine TL.p Pu.kt ?_
  refine TL.p Pu.mv ?_
  refine TL.gs ?_
  refine TL.gs ?_
  refine TL.gs ?_
  refine TL.p Pu.kt ?_
  refine TL.nil ?_
  exact TQ.sub (by repeat (first | exact trivial | refine ⟨rfl, ?_⟩ | refine ⟨trivial, ?_⟩ | refine ⟨(by show some (Value.bool _) = some (Value.bool _); first | (simp [hg3]; done) | (refine congrArg (fun z => some (Value.bool z)) (Bool.eq_iff_iff.2 ?_); simp [hg3]; omega)), ?_⟩)) ks9 hJ1
  refine TL.gd Pu.mv ?_
  refine TL.gd (Pu.ln Tryz.underlying41) ?_
  refine TL.gd Pu.lt ?_
  refine TL.p Pu.kf ?_
  refine TL.p Pu.mv ?_
  refine TL.guard (t := 17) rfl (fun hg4 => ?_) (fun hg4 => ?_)
  refine TL.gs ?_
  refine TL.gs ?_
  refine TL.gs ?_
  refine TL.p Pu.kt ?_
  refine TL.nil ?_
  exact TQ.sub (by repeat (first | exact trivial | refine ⟨rfl, ?_⟩ | refine ⟨trivial, ?_⟩ | refine ⟨(by show some (Value.bool _) = some (Value.bool _); first | (simp [hg3, hg4]; done) | (refine congrArg (fun z => some (Value.bool z)) (Bool.eq_iff_iff.2 ?_); simp [hg3, hg4]; omega)), ?_⟩)) ks9 hJ1
  refine TL.gd (by first | exact (Pu.ld ty_sc31) | exact (Pu.ldo ty_sc31)) ?_
  refine TL.gd (Pu.ln Tryz.underlying31) ?_
  refine TL.gd Pu.eq ?_
  refine TL.p Pu.kf ?_
  refine TL.nil ?_
  exact TQ.sub (by repeat (first | exact trivial | refine ⟨rfl, ?_⟩ | refine ⟨trivial, ?_⟩ | refine ⟨(by show some (Value.bool _) = some (Value.bool _); first | (simp [hg3, hg4]; done) | (refine congrArg (fun z => some (Value.bool z)) (Bool.eq_iff_iff.2 ?_); simp [hg3, hg4]; omega)), ?_⟩)) ks9 hJ1
end
end Go.Proofs.YtfgnbkegdjkdmaaGreatDoor
namespace Go.Proofs.YtfgnbkegdjkdmaaGreatDoor
set_option linter.all false
set_option linter.unusedVariables false
set_option linter.unusedSimpArgs false
open Go.RowKit Go.Lib
section
variable {c : Cx} {Q : Exit → Act → World → Prop} {F F' : Fr} {K K' K0 : List Fact} {ops : Array Oper} {rest : List Oper} {d : Option Tmp} {ty : TypeId} {pos : String} {af : Array Edge} {g : Option (Nat × Bool)}
theorem TL.cvkg {f : FuncId} {x : Operand} {xs : List Operand} {ts : Array TypeId} {us fs cs : List Value} {M : List Fact} {X : Type} {val : X → Value} {L : X → List Fact} (hf : ev F x = some (.func (.func f) fs.toArray cs.toArray)) (hx : evs F xs = some us) (hen : Enters c.P f) (hM : K.Perm (M ++ K'))
  (hc : ∀ w, Sat c.S c.w0 K w → CallsK c.P f (fs ++ us ++ cs).toArray M w X val L) (h : ∀ x, TL c ops Q rest (fput F d (val x)) (L x ++ K')) (hg : gdB F ops g = some true := by rfl) (hd : dok d c.n = true := by rfl) : TL c ops Q (⟨d, .call { callee := .value x, args := xs.toArray, argTypes := ts }, ty, pos, af, g⟩ :: rest) F K := fun a w hF hK => by
 unfold wpList
 rw [if_pos (hF.wanted hg)]
 refine .inl ?_
 unfold Oper.wp
 rw [run_callv (hF.evl hf) (hF.evsl hx) hen rfl]
 refine Calls.mono (hc w hK) ?_
 rintro e w' ⟨x, rfl, hs⟩
 exact h x _ _ (hF.fput hd _) ((hK.perm hM).step hs)
end
theorem far_of {S : List Nat} {w0 w : World} {K : List Fact} (hw : Sat S w0 K w) (hF : Far S) (hE : RdW w0) : Far (feet K) := fun g hg => by
 rcases hw.ge g hg with h | h
 · exact hF g h
 · exact Nat.le_trans hE.size h
theorem flatR_str {ls : List (List UInt8)} : ∀ {k : Nat}, k ≤ ls.length → flatR k (strL ls) = (ls.take k).map sv
 | 0, _ => rfl
 | k + 1, h => by
  rw [flatR, flatR_str (by omega), takeS h, List.map_append]
  rfl
theorem split_at {a f : List UInt8} {l0 : List (List UInt8)} (hs : spW 32 a = f :: l0) (ha : a.length ≤ 1000000) (hl : l0.length ≤ 100000) {w : World} (hE : RdW w) : CallsK Tryz.prog 24 #[sv a, sv [32]] [] w Nat (fun b => .slice (some ⟨b, 0, none⟩) (l0.length + 1) (l0.length + 1)) (fun b => [.own (some ⟨b, 0, none⟩) (l0.length + 1) (l0.length + 1) 9 1 (strL (f :: l0))]) := by
 have h := split_any ha hE
 rw [hs] at h
 refine Calls.mono h ?_
 rintro e w' ⟨b, rfl, hb⟩
 refine ⟨b, rfl, ?_⟩
 have h1 := flatR_str (ls := f :: l0) (k := l0.length + 1) (Nat.le_refl _)
 rw [List.take_of_length_le (by rw [List.length_cons]; exact Nat.le_refl _)] at h1
 exact hb.sub (KSub.ofBlk Pick.hd h1 (fun i hi => rfl) rfl (by rw [Nat.ble_eq]; omega) KSub.nil)
theorem spW_short {c : UInt8} {a x : List UInt8} (h : x ∈ spW c a) : x.length ≤ a.length := by
 have h1 := mkE_len (c := c) (a := a)
 have h2 : ∀ {l : List (List UInt8)}, x ∈ l → x.length + 1 ≤ mkE l := by
  intro l
  induction l with
  | nil => intro h; cases h
  | cons y l ih =>
   intro h
   unfold mkE
   rcases List.mem_cons.1 h with rfl | h
   · omega
   · have := ih h; omega
 have := h2 h
 omega
theorem spW_count {c : UInt8} {a : List UInt8} : (spW c a).length ≤ a.length + 1 := by
 have h1 := mkE_len (c := c) (a := a)
 have h2 : ∀ {l : List (List UInt8)}, l.length ≤ mkE l := by
  intro l
  induction l with
  | nil => exact Nat.le_refl _
  | cons y l ih => unfold mkE; rw [List.length_cons]; omega
 have := h2 (l := spW c a)
 omega
theorem tk_ok {isLog : Bool} {c c' : Cont} {ls : List (List UInt8)} (h : addL isLog c ls = some c') (hc : CtOk c) : CtOk c' := by
  unfold addL at h
  cases isLog with
  | false =>
    rw [if_neg (by decide)] at h
    cases ls with
    | nil => cases h
    | cons f l =>
      change (nmsL l).bind _ = some c' at h
      cases hn : nmsL l with
      | none => rw [hn] at h; cases h
      | some m =>
        rw [hn] at h
        simp only [Option.bind_some] at h
        obtain ⟨h1, h2⟩ := hc
        split at h
        · cases h
        · split at h
          · cases h; exact ⟨by simp only [List.length_append, List.length_cons, List.length_nil]; omega, h2⟩
          · split at h
            · cases h; exact ⟨by simp only [List.length_append, List.length_cons, List.length_nil]; omega, h2⟩
            · cases h
  | true =>
    rw [if_pos rfl] at h
    match ls, h with
    | f :: d :: w :: l, h =>
      rw [addG_cons] at h
      split at h
      · rename_i h0
        cases hd : valL d with
        | none => rw [hd] at h; cases h
        | some k =>
          rw [hd] at h
          cases hn : nmsL l with
          | none => rw [hn] at h; cases h
          | some m =>
            rw [hn] at h
            simp only [Option.bind_some] at h
            split at h
            · cases h; exact ⟨hc.1, by have := hc.2; simp only [List.length_append, List.length_cons, List.length_nil]; omega⟩
            · cases h
      · cases h
theorem TkR.no {isLog : Bool} {c c' : Cont} {ls : List (List UInt8)} (h : TkR isLog c ls false c') : addL isLog c ls = none := by
 unfold TkR at h
 cases h1 : addL isLog c ls with
 | none => rfl
 | some d => rw [h1] at h; cases h.1
theorem TkR.yes {isLog : Bool} {c c' : Cont} {ls : List (List UInt8)} (h : TkR isLog c ls true c') : addL isLog c ls = some c' := by
 unfold TkR at h
 cases h1 : addL isLog c ls with
 | none => rw [h1] at h; cases h
 | some d => rw [h1] at h; rw [h.2]
def UnR {St : Type} (ct : St → Cont) (V : Int × Int × Cont) (x : (Int × Int) × St) : Prop := x.1.1 = V.1 ∧ x.1.2 = V.2.1 ∧ (V.2.1 = 0 → ct x.2 = V.2.2)
theorem UnR.err {St : Type} {ct : St → Cont} {V : Int × Int × Cont} {l e : Int} {c : Cont} (h : V = (l, e, c)) (he : e ≠ 0) (s : St) : UnR ct V ((l, e), s) := by
 subst h
 exact ⟨rfl, rfl, fun h => absurd h he⟩
theorem UnR.fin {St : Type} {ct : St → Cont} {V : Int × Int × Cont} {s : St} (h : V = (0, 0, ct s)) : UnR ct V ((0, 0), s) := by
 subst h
 exact ⟨rfl, rfl, fun _ => rfl⟩
section
variable {St : Type} {φ : St → Fact} {ct : St → Cont} {isLog : Bool} {g : FuncId} {cs : List Value}
def Takes (φ : St → Fact) (ct : St → Cont) (isLog : Bool) (g : FuncId) (cs : List Value) : Prop := ∀ (s : St) (f : List UInt8) (l0 : List (List UInt8)) (n cp : Nat) (A : Option Addr) (w : World), RdW w → n = l0.length + 1 → l0.length ≤ 100000 → (∀ x, x ∈ l0 → x.length ≤ 100000) → n ≤ cp → CtOk (ct s) →
 Sat (feet [φ s]) w [φ s] w → Far (feet [φ s]) → RdR w 1 A n (strL (f :: l0)) → Apart (feet [φ s]) A →
 CallsK Tryz.prog g ([Value.slice A n cp] ++ cs).toArray [φ s] w { x : Bool × St // TkR isLog (ct s) (f :: l0) x.1 (ct x.2) } (fun x => .bool x.1.1) (fun x => [φ x.1.2])
set_option maxRecDepth 100000 in
set_option maxHeartbeats 8000000 in
theorem untwist_any {t : List UInt8} {s0 : St} {w : World} (hen : Enters Tryz.prog g) (hT : Takes φ ct isLog g cs) (hE : RdW w) (h0 : ct s0 = ⟨[], [], []⟩) (ht : t.length ≤ 40000) (hM : Sat (feet [φ s0]) w [φ s0] w) (hF : Far (feet [φ s0])) :
    CallsK Tryz.prog 10 #[sv t, .func (.func g) #[] cs.toArray] [φ s0] w { x : (Int × Int) × St // UnR ct (rdW isLog t) x } (fun x => .tuple #[.int .i64 x.1.1.1, .int .i64 x.1.1.2]) (fun x => [φ x.1.2]) := by
  refine K_enter (S := feet [φ s0]) (K := [φ s0]) Tryz.func10 rfl Tryz.ntmps10 rfl hM ?_
  refine TW.seq fun Y1 hY1 => TW.region ?_
  refine TL.p Pu.as ?_
  refine TL.p Pu.as ?_
  refine TL.nil (TQ.thenN (hY1 _ _ ?_))
  refine TW.seq fun Y2 hY2 => ?_
  refine TW.seq fun Y3 hY3 => TW.region ?_
  refine TL.p Pu.mv ?_
  refine TL.p (Pu.sln Tryz.underlying9) ?_
  refine TL.p Pu.gt ?_
  refine TL.nil (TQ.thenN (hY3 _ _ ?_))
  refine TW.cond rfl (fun hc0 => ?_) (fun hc0 => ?_)
  try simp only [zcb9] at hc0
  have hV : rdW isLog t = (0, 9, ⟨[], [], []⟩) := by unfold rdW; rw [if_pos (by omega)]
  refine TW.seq fun Y4 hY4 => TW.region ?_
  refine TL.p Pu.as ?_
  refine TL.p Pu.as ?_
  refine TL.nil (TQ.thenN (hY4 _ _ ?_))
  refine TW.ret ?_
  refine TQ.thenR ?_
  refine TQ.ret Tryz.results10 rfl ((.tmp rfl (.tmp rfl .nil))) ?_
  exact fun w hw => ⟨⟨((_, _), s0), UnR.err hV (by decide) s0⟩, rfl, hw.sub (KSub.cons pk9 KSub.nil)⟩
  try simp only [zcb9] at hc0
  have ht3 : t.length ≤ 30000 := by omega
  have hV : rdW isLog t = rdF isLog t.length (ct s0) 23 0 t := by unfold rdW; rw [if_neg (by omega), h0]; rfl
  obtain ⟨V, hVV⟩ : ∃ V, rdW isLog t = V := ⟨_, rfl⟩
  rw [hVV] at hV
  refine TW.skip ?_
  refine TQ.thenN (hY2 _ _ ?_)
  refine TW.seq fun Y5 hY5 => TW.region ?_
  refine TL.call (M := []) rfl (enters Tryz.func21 rfl rfl) (List.Perm.refl _) rfl (fun w hw => by
      exact knots_any _) ?_
  rintro bk
  refine TL.p Pu.as ?_
  refine TL.nil (TQ.thenN (hY5 _ _ ?_))
  refine TW.seq fun Y6 hY6 => TW.region ?_
  refine TL.p Pu.as ?_
  refine TL.nil (TQ.thenN (hY6 _ _ ?_))
  refine TW.seq fun Y7 hY7 => ?_
  refine TW.seq fun Y8 hY8 => TW.region ?_
  refine TL.p Pu.mv ?_
  refine TL.p Pu.as ?_
  refine TL.nil (TQ.thenN (hY8 _ _ ?_))
  refine TW.block ?_
  refine TW.loop4 (fun (n : Nat) (T : List UInt8) (σ : Nat) (s : St) => [(7, .int .i64 (n : Int)), (8, sv T), (6, .func (.func 36) #[] #[.pointer (some ⟨bk, 0, none⟩)]), (1, .func (.func g) #[] cs.toArray)]) (fun n T σ s => [φ s, .blk bk 3 [.int .i64 (σ : Int)]]) (fun n T σ s => rdF isLog T.length (ct s) σ n T = V ∧ σ < 8191 ∧ n + T.length ≤ 30000 ∧ CtOk (ct s)) (fun n T σ s => T.length) 0 t 23 s0 fs9 ?_ ?_ ?_
  exact ks9
  exact ⟨hV.symm, by decide, by omega, by rw [h0]; exact ⟨Nat.zero_le _, Nat.zero_le _⟩⟩
  rintro n T σ s ⟨hV1, hσ, hnT, hct⟩ Z0 hZ0
  obtain ⟨X, R, b, hcut⟩ : ∃ X R b, cut T [10] = (X, R, b) := ⟨_, _, _, rfl⟩
  obtain ⟨L, hL⟩ : ∃ L, lastIndexByte ⟨X.toArray⟩ 32 = L := ⟨_, rfl⟩
  have hXl : X.length ≤ T.length := by
    rcases cut_inv hcut with ⟨_, e, _⟩ | ⟨_, _, e⟩
    rw [e, List.length_append]; omega
    rw [e]; exact Nat.le_refl _
  refine TW.seq fun Y9 hY9 => ?_
  refine TW.seq fun Y10 hY10 => TW.region ?_
  refine TL.p Pu.mv ?_
  refine TL.p Pu.sne ?_
  refine TL.nil (TQ.thenN (hY10 _ _ ?_))
  refine TW.cond rfl (fun hc1 => ?_) (fun hc1 => ?_)
  try simp only [zcb9] at hc1
  refine TW.skip ?_
  refine TQ.thenN (hY9 _ _ ?_)
  refine TW.block ?_
  refine TW.seq fun Y11 hY11 => TW.region ?_
  refine TL.p Pu.mv ?_
  refine TL.p Pu.ad ?_
  refine TL.p Pu.as ?_
  refine TL.nil (TQ.thenN (hY11 _ _ ?_))
  refine TW.seq fun Y12 hY12 => TW.region ?_
  refine TL.p Pu.mv ?_
  refine TL.cr rfl (enters Tryz.func22 rfl rfl) (fun w hw => by
      exact cut_any (by omega) hcut (hE.sat hw hF)) ?_
  refine TL.p Pu.mv ?_
  refine TL.p Pu.ex ?_
  refine TL.p Pu.ex ?_
  refine TL.p Pu.ex ?_
  refine TL.p Pu.as ?_
  refine TL.p Pu.as ?_
  refine TL.p Pu.as ?_
  refine TL.nil (TQ.thenN (hY12 _ _ ?_))
  refine TW.seq fun Y13 hY13 => TW.region ?_
  refine TL.p Pu.mv ?_
  refine TL.cr rfl (enters Tryz.func23 rfl rfl) (fun w hw => by
      exact lix_any (by omega) hL _) ?_
  refine TL.p Pu.as ?_
  refine TL.nil (TQ.thenN (hY13 _ _ ?_))
  refine TW.seq fun Y14 hY14 => ?_
  refine TW.seq fun Y15 hY15 => ?_
  refine TW.join [(41, .bool (!b || decide (L < 0)))] ?_ (fun hJ1 => ?_)
  refine TQ.thenN (hY15 _ _ ?_)
  refine TW.cond rfl (fun hc2 => ?_) (fun hc2 => ?_)
  try simp only [zcb9] at hc2
  have hVe : V = ((n : Int) + 1, 103, ct s) := by
    rw [← hV1]
    rcases cut_inv hcut with ⟨hb, e, h10⟩ | ⟨_, h10, _⟩
    rcases lix_inv hL with ⟨_, h32⟩ | ⟨a, z, _, _, e2⟩
    rw [e]; exact v_line h10 h32
    rcases hc2 with h | h
    rw [hb] at h; cases h
    omega
    exact v_no h10
  refine TW.seq fun Y16 hY16 => TW.region ?_
  refine TL.p Pu.mv ?_
  refine TL.p Pu.as ?_
  refine TL.p Pu.as ?_
  refine TL.nil (TQ.thenN (hY16 _ _ ?_))
  refine TW.ret ?_
  refine TQ.thenR ?_
  refine TQ.blkR ?_
  refine TQ.thenR ?_
  refine TQ.blkR ?_
  refine TQ.thenR ?_
  refine TQ.ret Tryz.results10 rfl ((.tmp rfl (.tmp rfl .nil))) ?_
  first
  | exact fun w hw => ⟨⟨((_, _), s2), UnR.err (hVV.trans hVe) (by decide) s2⟩, rfl, hw.sub (KSub.cons pk9 KSub.nil)⟩
  | exact fun w hw => ⟨⟨((_, _), s), UnR.err (hVV.trans hVe) (by decide) s⟩, rfl, hw.sub (KSub.cons pk9 KSub.nil)⟩
  | exact fun w hw => ⟨⟨((_, _), s), UnR.err (hVV.trans (show V = ((n : Int) + 1, 104, ct s) by
      by_cases h2 : f = [69]
      by_cases h4 : k = (ckL σ a : Int) ∧ m0 = (n : Int)
      exact False.elim (by
      first
      | exact absurd ‹(!decide ((ckL σ a : Int) = k)) = true› (by simp [h4.1])
      | exact absurd ‹(!decide (m0 = (n : Int))) = true› (by simp [h4.2])
      | exact absurd h4.2 ‹¬ (m0 = (n : Int))›
      | exact absurd ‹(!decide (f = [69])) = true› (by simp [h2])
      | exact absurd ‹decide (f = [69]) = false› (by simp [h2]))
      rw [hA h2, if_neg h4]
      first
      | exact absurd ‹(!decide (f = [69])) = false› (by simp [h2])
      | exact absurd ‹decide (f = [69]) = true› (by simp [h2]))) (by decide) s⟩, rfl, hw.sub (KSub.cons pk9 KSub.nil)⟩
  | exact fun w hw => ⟨⟨((_, _), s2), UnR.err (hVV.trans (show V = ((n : Int) + 1, 104, ct s) by
      by_cases h2 : f = [69]
      first
      | exact absurd ‹(!decide (f = [69])) = true› (by simp [h2])
      | exact absurd ‹decide (f = [69]) = false› (by simp [h2])
      first
      | exact absurd ‹decide (f = [69]) = true› (by simp [h2])
      | (rw [hB h2, htk.yes]; exact if_neg (fun e => absurd ‹(!decide ((ckL σ a : Int) = k)) = true› (by simp [e]))))) (by decide) s2⟩, rfl, hw.sub (KSub.cons pk9 KSub.nil)⟩
  | exact fun w hw => ⟨⟨((0, 0), s), UnR.fin (hVV.trans (show V = (0, 0, ct s) by
      have h2 : f = [69] := by simpa using ‹(!decide (f = [69])) = false›
      have h3 : (ckL σ a : Int) = k := by simpa using ‹(!decide ((ckL σ a : Int) = k)) = false›
      have h4 : m0 = (n : Int) := by first | assumption | (simpa using ‹(!decide (m0 = (n : Int))) = false›) | exact absurd ‹decide (f = [69]) = false› (by simp [h2])
      rw [hA h2, if_pos ⟨h3.symm, h4⟩]))⟩, rfl, hw.sub (KSub.cons pk9 KSub.nil)⟩
  | trace_state
  try simp only [zcb9] at hc2
  obtain ⟨hb, hL0⟩ : b = true ∧ 0 ≤ L := by
    obtain ⟨h1, h2⟩ := hc2
    exact ⟨by simpa using h1, by omega⟩
  obtain ⟨hTe, h10⟩ : T = X ++ 10 :: R ∧ 10 ∉ X := by
    rcases cut_inv hcut with ⟨_, e, h⟩ | ⟨h, _, _⟩
    exact ⟨e, h⟩
    rw [h] at hb; cases hb
  obtain ⟨a, z, hXe, hz, hLe⟩ : ∃ a z, X = a ++ 32 :: z ∧ 32 ∉ z ∧ L = (a.length : Int) := by
    rcases lix_inv hL with ⟨h, _⟩ | h
    omega
    exact h
  clear hcut hL
  subst hb
  subst hTe
  subst hXe
  subst hLe
  have hlen : (a ++ 32 :: z).length = a.length + z.length + 1 := by rw [List.length_append, List.length_cons]; omega
  have hlen2 : (a ++ 32 :: z ++ 10 :: R).length = a.length + z.length + R.length + 2 := by rw [List.length_append, List.length_append, List.length_cons, List.length_cons]; omega
  obtain ⟨f, l0, hws⟩ : ∃ f l0, spW 32 a = f :: l0 := by
    cases h : spW 32 a with
    | nil => exact absurd h spW_ne
    | cons f l => exact ⟨f, l, rfl⟩
  have hl0 : l0.length ≤ 30001 := by have h := spW_count (c := 32) (a := a); rw [hws, List.length_cons] at h; omega
  have hlx : ∀ x, x ∈ l0 → x.length ≤ 100000 := fun x hx => by have h := spW_short (c := 32) (a := a) (x := x) (by rw [hws]; exact List.mem_cons_of_mem _ hx); omega
  obtain ⟨ok1, m1, hN1⟩ := nmR_ex [z]
  obtain ⟨ok2, m2, hN2⟩ := nmR_ex l0
  have hm2 := hN2.len
  refine TW.skip ?_
  refine TQ.thenN (hY14 _ _ ?_)
  refine TW.seq fun Y17 hY17 => TW.region ?_
  refine TL.p Pu.mv ?_
  refine TL.p Pu.mv ?_
  refine TL.p Pu.ad ?_
  refine TL.p (Pu.sw (b := z) (Pu.ssf Tryz.underlying9 (q := a.length + 1)) (by rw [List.drop_append]; simp)) ?_
  refine TL.m Mk.bl ?_
  intro b1
  refine TL.call (M := []) rfl (enters Tryz.func12 rfl rfl) (List.Perm.refl _) rfl (fun w hw => by
      exact numbers_any (ls := [z]) (hE.sat hw hF) hN1 rfl (by simp) (fun y hy => by rw [List.mem_singleton.1 hy]; omega) (RdR.blk (cs := [sv z]) (hw.holds (.blk _ 9 [sv z]) (Pick.mem pk9)) rfl (fun i hi => by (obtain rfl : i = 0 := by omega); rfl))) ?_
  rintro ⟨B1, e1⟩
  refine TL.p Pu.mv ?_
  refine TL.p Pu.ex ?_
  refine TL.p Pu.ex ?_
  refine TL.p Pu.as ?_
  refine TL.p Pu.as ?_
  refine TL.nil (TQ.thenN (hY17 _ _ ?_))
  refine TW.seq fun Y18 hY18 => TW.region ?_
  refine TL.p Pu.mv ?_
  refine TL.p Pu.mv ?_
  refine TL.p (Pu.sw (b := a) (Pu.ssh Tryz.underlying9 (q := a.length)) (List.take_left' rfl)) ?_
  refine TL.call (M := []) rfl (enters Tryz.func24 rfl rfl) (List.Perm.refl _) rfl (fun w hw => by
      exact split_at hws (by omega) (by omega) (hE.sat hw hF)) ?_
  rintro bw
  refine TL.p Pu.as ?_
  refine TL.nil (TQ.thenN (hY18 _ _ ?_))
  refine TW.seq fun Y19 hY19 => ?_
  refine TW.seq fun Y20 hY20 => ?_
  refine TW.join [(63, .bool (!ok1 || decide (f = [])))] ?_ (fun hJ2 => ?_)
  refine TQ.thenN (hY20 _ _ ?_)
  refine TW.cond rfl (fun hc3 => ?_) (fun hc3 => ?_)
  try simp only [zcb9] at hc3
  have hVe : V = ((n : Int) + 1, 103, ct s) := by
    rw [← hV1]
    refine v_key h10 hz hws ?_
    rcases hc3 with h | h
    rcases nm_one hN1 with ⟨h2, _⟩ | ⟨_, h2, _⟩
    rw [h2] at h; simp at h
    exact .inl h2
    exact .inr h
  refine TW.seq fun Y21 hY21 => TW.region ?_
  refine TL.p Pu.mv ?_
  refine TL.p Pu.as ?_
  refine TL.p Pu.as ?_
  refine TL.nil (TQ.thenN (hY21 _ _ ?_))
  refine TW.ret ?_
  refine TQ.thenR ?_
  refine TQ.blkR ?_
  refine TQ.thenR ?_
  refine TQ.blkR ?_
  refine TQ.thenR ?_
  refine TQ.ret Tryz.results10 rfl ((.tmp rfl (.tmp rfl .nil))) ?_
  first
  | exact fun w hw => ⟨⟨((_, _), s2), UnR.err (hVV.trans hVe) (by decide) s2⟩, rfl, hw.sub (KSub.cons pk9 KSub.nil)⟩
  | exact fun w hw => ⟨⟨((_, _), s), UnR.err (hVV.trans hVe) (by decide) s⟩, rfl, hw.sub (KSub.cons pk9 KSub.nil)⟩
  | exact fun w hw => ⟨⟨((_, _), s), UnR.err (hVV.trans (show V = ((n : Int) + 1, 104, ct s) by
      by_cases h2 : f = [69]
      by_cases h4 : k = (ckL σ a : Int) ∧ m0 = (n : Int)
      exact False.elim (by
      first
      | exact absurd ‹(!decide ((ckL σ a : Int) = k)) = true› (by simp [h4.1])
      | exact absurd ‹(!decide (m0 = (n : Int))) = true› (by simp [h4.2])
      | exact absurd h4.2 ‹¬ (m0 = (n : Int))›
      | exact absurd ‹(!decide (f = [69])) = true› (by simp [h2])
      | exact absurd ‹decide (f = [69]) = false› (by simp [h2]))
      rw [hA h2, if_neg h4]
      first
      | exact absurd ‹(!decide (f = [69])) = false› (by simp [h2])
      | exact absurd ‹decide (f = [69]) = true› (by simp [h2]))) (by decide) s⟩, rfl, hw.sub (KSub.cons pk9 KSub.nil)⟩
  | exact fun w hw => ⟨⟨((_, _), s2), UnR.err (hVV.trans (show V = ((n : Int) + 1, 104, ct s) by
      by_cases h2 : f = [69]
      first
      | exact absurd ‹(!decide (f = [69])) = true› (by simp [h2])
      | exact absurd ‹decide (f = [69]) = false› (by simp [h2])
      first
      | exact absurd ‹decide (f = [69]) = true› (by simp [h2])
      | (rw [hB h2, htk.yes]; exact if_neg (fun e => absurd ‹(!decide ((ckL σ a : Int) = k)) = true› (by simp [e]))))) (by decide) s2⟩, rfl, hw.sub (KSub.cons pk9 KSub.nil)⟩
  | exact fun w hw => ⟨⟨((0, 0), s), UnR.fin (hVV.trans (show V = (0, 0, ct s) by
      have h2 : f = [69] := by simpa using ‹(!decide (f = [69])) = false›
      have h3 : (ckL σ a : Int) = k := by simpa using ‹(!decide ((ckL σ a : Int) = k)) = false›
      have h4 : m0 = (n : Int) := by first | assumption | (simpa using ‹(!decide (m0 = (n : Int))) = false›) | exact absurd ‹decide (f = [69]) = false› (by simp [h2])
      rw [hA h2, if_pos ⟨h3.symm, h4⟩]))⟩, rfl, hw.sub (KSub.cons pk9 KSub.nil)⟩
  | trace_state
  try simp only [zcb9] at hc3
  obtain ⟨ho1, hf0⟩ : ok1 = true ∧ f ≠ [] := by simpa using hc3
  obtain ⟨k, rfl, hk⟩ : ∃ k, m1 = [k] ∧ valL z = some k := by
    rcases nm_one hN1 with ⟨_, k, h1, h⟩ | ⟨h, _, _⟩
    exact ⟨k, h, h1⟩
    rw [h] at ho1; cases ho1
  subst ho1
  rw [show ([k] : List Int).length = 1 from rfl]
  refine TW.skip ?_
  refine TQ.thenN (hY19 _ _ ?_)
  refine TW.seq fun Y22 hY22 => TW.region ?_
  refine TL.p Pu.mv ?_
  refine TL.p (Pu.el (q := 0) ty_et41 (hk := rfl)) ?_
  refine TL.p (Pu.sw (a := (f :: l0).getD 0 []) (b := f) (Pu.ld ty_sc9) rfl) ?_
  refine TL.p Pu.seq_ ?_
  refine TL.p Pu.as ?_
  refine TL.nil (TQ.thenN (hY22 _ _ ?_))
  refine TW.seq fun Y23 hY23 => TW.region ?_
  refine TL.p Pu.mv ?_
  refine TL.p (Pu.sf ty_et41) ?_
  refine TL.call (M := []) rfl (enters Tryz.func12 rfl rfl) (List.Perm.refl _) rfl (fun w hw => by
      exact numbers_any (ls := l0) (hE.sat hw hF) hN2 (by omega) (by omega) hlx ((OwnR.rdr (hw.holds (.own (some ⟨bw, 0, none⟩) (l0.length + 1) (l0.length + 1) 9 1 (strL (f :: l0))) (Pick.mem pk9))).wordTail rfl (Nat.le_refl _))) ?_
  rintro ⟨B2, e2⟩
  refine TL.p Pu.mv ?_
  refine TL.p Pu.ex ?_
  refine TL.p Pu.ex ?_
  refine TL.p Pu.as ?_
  refine TL.p Pu.as ?_
  refine TL.nil (TQ.thenN (hY23 _ _ ?_))
  refine TW.seq fun Y24 hY24 => ?_
  refine TW.block ?_
  refine TW.seq fun Y25 hY25 => ?_
  refine TW.join [(75, .bool (decide (f = [69]) && (!ok2 || !decide ((m2.length : Int) = 1) || !decide (R = []))))] ?_ (fun hJ3 => ?_)
  refine TQ.thenN (hY25 _ _ ?_)
  refine TW.cond rfl (fun hc4 => ?_) (fun hc4 => ?_)
  try simp only [zcb9] at hc4
  have hVe : V = ((n : Int) + 1, 103, ct s) := by
    obtain ⟨hf, h⟩ := hc4
    rw [← hV1]
    subst hf
    refine v_badE h10 hz hws hk ?_
    rcases h with (h | h) | h
    rcases hN2 with ⟨h1, _⟩ | ⟨_, h1, _⟩
    rw [h1] at h; simp at h
    exact .inl fun m e => by rw [h1] at e; cases e
    refine .inl fun m e => ?_
    rcases hN2 with ⟨_, h1⟩ | ⟨_, h1, _⟩
    rw [h1] at e; cases e; exact h rfl
    rw [h1] at e; cases e
    exact .inr h
  refine TW.seq fun Y26 hY26 => TW.region ?_
  refine TL.p Pu.mv ?_
  refine TL.p Pu.as ?_
  refine TL.p Pu.as ?_
  refine TL.nil (TQ.thenN (hY26 _ _ ?_))
  refine TW.ret ?_
  refine TQ.blkR ?_
  refine TQ.thenR ?_
  refine TQ.blkR ?_
  refine TQ.thenR ?_
  refine TQ.blkR ?_
  refine TQ.thenR ?_
  refine TQ.ret Tryz.results10 rfl ((.tmp rfl (.tmp rfl .nil))) ?_
  first
  | exact fun w hw => ⟨⟨((_, _), s2), UnR.err (hVV.trans hVe) (by decide) s2⟩, rfl, hw.sub (KSub.cons pk9 KSub.nil)⟩
  | exact fun w hw => ⟨⟨((_, _), s), UnR.err (hVV.trans hVe) (by decide) s⟩, rfl, hw.sub (KSub.cons pk9 KSub.nil)⟩
  | exact fun w hw => ⟨⟨((_, _), s), UnR.err (hVV.trans (show V = ((n : Int) + 1, 104, ct s) by
      by_cases h2 : f = [69]
      by_cases h4 : k = (ckL σ a : Int) ∧ m0 = (n : Int)
      exact False.elim (by
      first
      | exact absurd ‹(!decide ((ckL σ a : Int) = k)) = true› (by simp [h4.1])
      | exact absurd ‹(!decide (m0 = (n : Int))) = true› (by simp [h4.2])
      | exact absurd h4.2 ‹¬ (m0 = (n : Int))›
      | exact absurd ‹(!decide (f = [69])) = true› (by simp [h2])
      | exact absurd ‹decide (f = [69]) = false› (by simp [h2]))
      rw [hA h2, if_neg h4]
      first
      | exact absurd ‹(!decide (f = [69])) = false› (by simp [h2])
      | exact absurd ‹decide (f = [69]) = true› (by simp [h2]))) (by decide) s⟩, rfl, hw.sub (KSub.cons pk9 KSub.nil)⟩
  | exact fun w hw => ⟨⟨((_, _), s2), UnR.err (hVV.trans (show V = ((n : Int) + 1, 104, ct s) by
      by_cases h2 : f = [69]
      first
      | exact absurd ‹(!decide (f = [69])) = true› (by simp [h2])
      | exact absurd ‹decide (f = [69]) = false› (by simp [h2])
      first
      | exact absurd ‹decide (f = [69]) = true› (by simp [h2])
      | (rw [hB h2, htk.yes]; exact if_neg (fun e => absurd ‹(!decide ((ckL σ a : Int) = k)) = true› (by simp [e]))))) (by decide) s2⟩, rfl, hw.sub (KSub.cons pk9 KSub.nil)⟩
  | exact fun w hw => ⟨⟨((0, 0), s), UnR.fin (hVV.trans (show V = (0, 0, ct s) by
      have h2 : f = [69] := by simpa using ‹(!decide (f = [69])) = false›
      have h3 : (ckL σ a : Int) = k := by simpa using ‹(!decide ((ckL σ a : Int) = k)) = false›
      have h4 : m0 = (n : Int) := by first | assumption | (simpa using ‹(!decide (m0 = (n : Int))) = false›) | exact absurd ‹decide (f = [69]) = false› (by simp [h2])
      rw [hA h2, if_pos ⟨h3.symm, h4⟩]))⟩, rfl, hw.sub (KSub.cons pk9 KSub.nil)⟩
  | trace_state
  try simp only [zcb9] at hc4
  have hEm : f = [69] → ok2 = true ∧ m2.length = 1 ∧ R = [] := by
    intro hf
    rcases hc4 with h | ⟨⟨h1, h2⟩, h3⟩
    exact absurd hf h
    exact ⟨by simpa using h1, by omega, h3⟩
  have hEn : decide (f = [69]) = true → m2.length = 1 := fun h => (hEm (by simpa using h)).2.1
  obtain ⟨m0, hm0⟩ : ∃ m0, m2.getD 0 0 = m0 := ⟨_, rfl⟩
  have hA : f = [69] → V = if k = (ckL σ a : Int) ∧ m0 = (n : Int) then (0, 0, ct s) else ((n : Int) + 1, 104, ct s) := by
    intro hf
    subst hm0
    obtain ⟨h1, h2, h3⟩ := hEm hf
    obtain ⟨m, rfl⟩ : ∃ m, m2 = [m] := by
      match m2, h2 with
      | [m], _ => exact ⟨m, rfl⟩
    rw [← hV1]
    subst hf
    subst h3
    exact v_okE h10 hz hws hk (nm_yes hN2 h1)
  have hB : f ≠ [69] → V = match addL isLog (ct s) (f :: l0) with
      | none => ((n : Int) + 1, 103, ct s)
      | some c' => if k = (ckL σ a : Int) then rdF isLog R.length c' (ckL (ckL σ a) (32 :: z ++ [10])) (n + 1) R else ((n : Int) + 1, 104, ct s) := by
    intro hf
    rw [← hV1]
    exact v_take h10 hz hws hk hf0 hf
  refine TW.seq fun Y27 hY27 => TW.region ?_
  refine TL.p Pu.mv ?_
  refine TL.p Pu.no ?_
  refine TL.p Pu.mv ?_
  refine TL.guard (t := 94) rfl (fun hg1 => ?_) (fun hg1 => ?_)
  refine TL.gd Pu.mv ?_
  refine TL.gd Pu.mv ?_
  refine TL.cvkg (M := [φ s]) rfl rfl hen (Pick.perm pk9) (fun w hw => by
    have hw9 := hw.sub (L := [φ s]) (KSub.cons pk9 KSub.nil)
    have hap := (hw.sub (L := [φ s] ++ [.own (some ⟨bw, 0, none⟩) (l0.length + 1) (l0.length + 1) 9 1 (strL (f :: l0))]) (KSub.cons pk9 (KSub.cons pk9 KSub.nil))).apartO (A := some ⟨bw, 0, none⟩) (n := l0.length + 1) (c := l0.length + 1) (E := 9) (sz := 1) (r := strL (f :: l0)) (by simp)
    exact hT s f l0 (l0.length + 1) (l0.length + 1) (some ⟨bw, 0, none⟩) w (hE.sat hw hF) rfl (by omega) hlx (Nat.le_refl _) hct hw9.self (far_of hw9 hF hE) (OwnR.rdr (hw.holds (.own (some ⟨bw, 0, none⟩) (l0.length + 1) (l0.length + 1) 9 1 (strL (f :: l0))) (Pick.mem pk9))) hap) ?_
  rintro ⟨⟨bt, s2⟩, htk⟩
  dsimp only at htk ⊢
  simp only [List.cons_append, List.nil_append]
  refine TL.gd Pu.no ?_
  refine TL.p Pu.kt ?_
  refine TL.p Pu.as ?_
  refine TL.nil (TQ.thenN (hY27 _ _ ?_))
  refine TW.cond rfl (fun hc5 => ?_) (fun hc5 => ?_)
  try simp only [zcb9] at hc5
  have hVe : V = ((n : Int) + 1, 103, ct s) := by
    have hf : f ≠ [69] := by simpa using ‹(!decide (f = [69])) = true›
    rw [hB hf]
    have hbt : bt = false := by simpa using hc5
    subst hbt
    rw [htk.no]
  refine TW.seq fun Y28 hY28 => TW.region ?_
  refine TL.p Pu.mv ?_
  refine TL.p Pu.as ?_
  refine TL.p Pu.as ?_
  refine TL.nil (TQ.thenN (hY28 _ _ ?_))
  refine TW.ret ?_
  refine TQ.blkR ?_
  refine TQ.thenR ?_
  refine TQ.blkR ?_
  refine TQ.thenR ?_
  refine TQ.blkR ?_
  refine TQ.thenR ?_
  refine TQ.ret Tryz.results10 rfl ((.tmp rfl (.tmp rfl .nil))) ?_
  first
  | exact fun w hw => ⟨⟨((_, _), s2), UnR.err (hVV.trans hVe) (by decide) s2⟩, rfl, hw.sub (KSub.cons pk9 KSub.nil)⟩
  | exact fun w hw => ⟨⟨((_, _), s), UnR.err (hVV.trans hVe) (by decide) s⟩, rfl, hw.sub (KSub.cons pk9 KSub.nil)⟩
  | exact fun w hw => ⟨⟨((_, _), s), UnR.err (hVV.trans (show V = ((n : Int) + 1, 104, ct s) by
      by_cases h2 : f = [69]
      by_cases h4 : k = (ckL σ a : Int) ∧ m0 = (n : Int)
      exact False.elim (by
      first
      | exact absurd ‹(!decide ((ckL σ a : Int) = k)) = true› (by simp [h4.1])
      | exact absurd ‹(!decide (m0 = (n : Int))) = true› (by simp [h4.2])
      | exact absurd h4.2 ‹¬ (m0 = (n : Int))›
      | exact absurd ‹(!decide (f = [69])) = true› (by simp [h2])
      | exact absurd ‹decide (f = [69]) = false› (by simp [h2]))
      rw [hA h2, if_neg h4]
      first
      | exact absurd ‹(!decide (f = [69])) = false› (by simp [h2])
      | exact absurd ‹decide (f = [69]) = true› (by simp [h2]))) (by decide) s⟩, rfl, hw.sub (KSub.cons pk9 KSub.nil)⟩
  | exact fun w hw => ⟨⟨((_, _), s2), UnR.err (hVV.trans (show V = ((n : Int) + 1, 104, ct s) by
      by_cases h2 : f = [69]
      first
      | exact absurd ‹(!decide (f = [69])) = true› (by simp [h2])
      | exact absurd ‹decide (f = [69]) = false› (by simp [h2])
      first
      | exact absurd ‹decide (f = [69]) = true› (by simp [h2])
      | (rw [hB h2, htk.yes]; exact if_neg (fun e => absurd ‹(!decide ((ckL σ a : Int) = k)) = true› (by simp [e]))))) (by decide) s2⟩, rfl, hw.sub (KSub.cons pk9 KSub.nil)⟩
  | exact fun w hw => ⟨⟨((0, 0), s), UnR.fin (hVV.trans (show V = (0, 0, ct s) by
      have h2 : f = [69] := by simpa using ‹(!decide (f = [69])) = false›
      have h3 : (ckL σ a : Int) = k := by simpa using ‹(!decide ((ckL σ a : Int) = k)) = false›
      have h4 : m0 = (n : Int) := by first | assumption | (simpa using ‹(!decide (m0 = (n : Int))) = false›) | exact absurd ‹decide (f = [69]) = false› (by simp [h2])
      rw [hA h2, if_pos ⟨h3.symm, h4⟩]))⟩, rfl, hw.sub (KSub.cons pk9 KSub.nil)⟩
  | trace_state
  try simp only [zcb9] at hc5
  have hbt : bt = true := by simpa using hc5
  subst hbt
  refine TW.seq fun Y29 hY29 => ?_
  refine TW.ex0k [.own B1 1 e1 3 1 (iL [k]), .own B2 m2.length e2 3 1 (iL m2)] ?_
  refine RG.tk 0 rfl Pu.mv ?_
  refine RG.tk 1 rfl Pu.mv ?_
  refine RG.tk 2 rfl Pu.mv ?_
  refine RG.tk 5 rfl Pu.mv ?_
  refine RG.tk 6 rfl (Pu.el (q := 0) ty_et42 (hk := rfl)) ?_
  refine RG.tk 7 rfl (Pu.iv (a := ([k] : List Int).getD 0 0) (b := k) (Pu.ld ty_sc3) rfl) ?_
  refine RG.a1 3 rfl (fun X3 hX3 => ?_)
  refine TL.p (Pu.sw (b := a) (Pu.ssh Tryz.underlying9 (q := a.length)) (List.take_left' rfl)) ?_
  refine TL.nil ?_
  refine TQ.nxt (hX3 _ _ hl9 ?_)
  refine RG.a1 4 rfl (fun X4 hX4 => ?_)
  refine TL.cvk rfl rfl (enters Tryz.func36 rfl rfl) (M := [.blk bk 3 [.int .i64 (σ : Int)]]) (Pick.perm pk9) (fun w hw => by
      exact knot1_any hσ (by omega) (hw.sub (KSub.cons pk9 KSub.nil)).self) ?_
  rintro ⟨⟩
  simp only [List.cons_append, List.nil_append]
  refine TL.nil ?_
  refine TQ.nxt (hX4 _ _ hl9 ?_)
  refine RG.tk 8 rfl Pu.ne ?_
  refine RG.tk 9 rfl Pu.mv ?_
  refine RG.guard (t := 111) rfl (fun hg2 => ?_) (fun hg2 => ?_)
  refine RG.ts 10 rfl ?_
  refine RG.ts 11 rfl ?_
  refine RG.ts 12 rfl ?_
  refine RG.ts 13 rfl ?_
  refine RG.ts 14 rfl ?_
  refine RG.ts 15 rfl ?_
  refine RG.ts 16 rfl ?_
  refine RG.ts 17 rfl ?_
  refine RG.ts 18 rfl ?_
  refine RG.tk 19 rfl Pu.kt ?_
  refine RG.tk 20 rfl Pu.as ?_
  refine RG.nil ?_ (by kernel_rfl)
  refine TQ.thenN (hY29 _ _ ?_)
  refine TW.condT rfl rfl ?_
  refine TW.seq fun Y30 hY30 => TW.region ?_
  refine TL.p Pu.mv ?_
  refine TL.p Pu.as ?_
  refine TL.p Pu.as ?_
  refine TL.nil (TQ.thenN (hY30 _ _ ?_))
  refine TW.ret ?_
  refine TQ.blkR ?_
  refine TQ.thenR ?_
  refine TQ.blkR ?_
  refine TQ.thenR ?_
  refine TQ.blkR ?_
  refine TQ.thenR ?_
  refine TQ.ret Tryz.results10 rfl ((.tmp rfl (.tmp rfl .nil))) ?_
  first
  | exact fun w hw => ⟨⟨((_, _), s2), UnR.err (hVV.trans hVe) (by decide) s2⟩, rfl, hw.sub (KSub.cons pk9 KSub.nil)⟩
  | exact fun w hw => ⟨⟨((_, _), s), UnR.err (hVV.trans hVe) (by decide) s⟩, rfl, hw.sub (KSub.cons pk9 KSub.nil)⟩
  | exact fun w hw => ⟨⟨((_, _), s), UnR.err (hVV.trans (show V = ((n : Int) + 1, 104, ct s) by
      by_cases h2 : f = [69]
      by_cases h4 : k = (ckL σ a : Int) ∧ m0 = (n : Int)
      exact False.elim (by
      first
      | exact absurd ‹(!decide ((ckL σ a : Int) = k)) = true› (by simp [h4.1])
      | exact absurd ‹(!decide (m0 = (n : Int))) = true› (by simp [h4.2])
      | exact absurd h4.2 ‹¬ (m0 = (n : Int))›
      | exact absurd ‹(!decide (f = [69])) = true› (by simp [h2])
      | exact absurd ‹decide (f = [69]) = false› (by simp [h2]))
      rw [hA h2, if_neg h4]
      first
      | exact absurd ‹(!decide (f = [69])) = false› (by simp [h2])
      | exact absurd ‹decide (f = [69]) = true› (by simp [h2]))) (by decide) s⟩, rfl, hw.sub (KSub.cons pk9 KSub.nil)⟩
  | exact fun w hw => ⟨⟨((_, _), s2), UnR.err (hVV.trans (show V = ((n : Int) + 1, 104, ct s) by
      by_cases h2 : f = [69]
      first
      | exact absurd ‹(!decide (f = [69])) = true› (by simp [h2])
      | exact absurd ‹decide (f = [69]) = false› (by simp [h2])
      first
      | exact absurd ‹decide (f = [69]) = true› (by simp [h2])
      | (rw [hB h2, htk.yes]; exact if_neg (fun e => absurd ‹(!decide ((ckL σ a : Int) = k)) = true› (by simp [e]))))) (by decide) s2⟩, rfl, hw.sub (KSub.cons pk9 KSub.nil)⟩
  | exact fun w hw => ⟨⟨((0, 0), s), UnR.fin (hVV.trans (show V = (0, 0, ct s) by
      have h2 : f = [69] := by simpa using ‹(!decide (f = [69])) = false›
      have h3 : (ckL σ a : Int) = k := by simpa using ‹(!decide ((ckL σ a : Int) = k)) = false›
      have h4 : m0 = (n : Int) := by first | assumption | (simpa using ‹(!decide (m0 = (n : Int))) = false›) | exact absurd ‹decide (f = [69]) = false› (by simp [h2])
      rw [hA h2, if_pos ⟨h3.symm, h4⟩]))⟩, rfl, hw.sub (KSub.cons pk9 KSub.nil)⟩
  | trace_state
  refine RG.tk 10 rfl Pu.mv ?_
  refine RG.tk 11 rfl Pu.mv ?_
  refine RG.guard (t := 113) rfl (fun hg3 => ?_) (fun hg3 => ?_)
  refine RG.tk 12 rfl Pu.mv ?_
  refine RG.tk 13 rfl (by have hm1 := hEn (by assumption); exact Pu.el (q := 0) ty_et42 (hk := rfl)) ?_
  refine RG.tk 14 rfl (by have hm1 := hEn (by assumption); exact Pu.iv (a := m2.getD 0 0) (b := m0) (Pu.ld ty_sc3) hm0) ?_
  refine RG.tk 15 rfl Pu.mv ?_
  refine RG.tk 16 rfl (Pu.iv (b := (n : Int)) Pu.sb (by omega)) ?_
  refine RG.tk 17 rfl Pu.ne ?_
  refine RG.tk 18 rfl Pu.kt ?_
  refine RG.tk 19 rfl Pu.kf ?_
  refine RG.tk 20 rfl Pu.as ?_
  refine RG.nil ?_ (by kernel_rfl)
  refine TQ.thenN (hY29 _ _ ?_)
  refine TW.cond rfl (fun hc6 => ?_) (fun hc6 => ?_)
  try simp only [zcb9] at hc6
  refine TW.seq fun Y31 hY31 => TW.region ?_
  refine TL.p Pu.mv ?_
  refine TL.p Pu.as ?_
  refine TL.p Pu.as ?_
  refine TL.nil (TQ.thenN (hY31 _ _ ?_))
  refine TW.ret ?_
  refine TQ.blkR ?_
  refine TQ.thenR ?_
  refine TQ.blkR ?_
  refine TQ.thenR ?_
  refine TQ.blkR ?_
  refine TQ.thenR ?_
  refine TQ.ret Tryz.results10 rfl ((.tmp rfl (.tmp rfl .nil))) ?_
  first
  | exact fun w hw => ⟨⟨((_, _), s2), UnR.err (hVV.trans hVe) (by decide) s2⟩, rfl, hw.sub (KSub.cons pk9 KSub.nil)⟩
  | exact fun w hw => ⟨⟨((_, _), s), UnR.err (hVV.trans hVe) (by decide) s⟩, rfl, hw.sub (KSub.cons pk9 KSub.nil)⟩
  | exact fun w hw => ⟨⟨((_, _), s), UnR.err (hVV.trans (show V = ((n : Int) + 1, 104, ct s) by
      by_cases h2 : f = [69]
      by_cases h4 : k = (ckL σ a : Int) ∧ m0 = (n : Int)
      exact False.elim (by
      first
      | exact absurd ‹(!decide ((ckL σ a : Int) = k)) = true› (by simp [h4.1])
      | exact absurd ‹(!decide (m0 = (n : Int))) = true› (by simp [h4.2])
      | exact absurd h4.2 ‹¬ (m0 = (n : Int))›
      | exact absurd ‹(!decide (f = [69])) = true› (by simp [h2])
      | exact absurd ‹decide (f = [69]) = false› (by simp [h2]))
      rw [hA h2, if_neg h4]
      first
      | exact absurd ‹(!decide (f = [69])) = false› (by simp [h2])
      | exact absurd ‹decide (f = [69]) = true› (by simp [h2]))) (by decide) s⟩, rfl, hw.sub (KSub.cons pk9 KSub.nil)⟩
  | exact fun w hw => ⟨⟨((_, _), s2), UnR.err (hVV.trans (show V = ((n : Int) + 1, 104, ct s) by
      by_cases h2 : f = [69]
      first
      | exact absurd ‹(!decide (f = [69])) = true› (by simp [h2])
      | exact absurd ‹decide (f = [69]) = false› (by simp [h2])
      first
      | exact absurd ‹decide (f = [69]) = true› (by simp [h2])
      | (rw [hB h2, htk.yes]; exact if_neg (fun e => absurd ‹(!decide ((ckL σ a : Int) = k)) = true› (by simp [e]))))) (by decide) s2⟩, rfl, hw.sub (KSub.cons pk9 KSub.nil)⟩
  | exact fun w hw => ⟨⟨((0, 0), s), UnR.fin (hVV.trans (show V = (0, 0, ct s) by
      have h2 : f = [69] := by simpa using ‹(!decide (f = [69])) = false›
      have h3 : (ckL σ a : Int) = k := by simpa using ‹(!decide ((ckL σ a : Int) = k)) = false›
      have h4 : m0 = (n : Int) := by first | assumption | (simpa using ‹(!decide (m0 = (n : Int))) = false›) | exact absurd ‹decide (f = [69]) = false› (by simp [h2])
      rw [hA h2, if_pos ⟨h3.symm, h4⟩]))⟩, rfl, hw.sub (KSub.cons pk9 KSub.nil)⟩
  | trace_state
  try simp only [zcb9] at hc6
  refine TW.seq fun Y32 hY32 => TW.region ?_
  refine TL.p Pu.mv ?_
  refine TL.p Pu.as ?_
  refine TL.nil (TQ.thenN (hY32 _ _ ?_))
  refine TW.condF rfl ((by simpa using ‹(!decide (f = [69])) = true›)) ?_
  refine TW.skip ?_
  refine TQ.blkN ?_
  refine TQ.thenN (hY24 _ _ ?_)
  refine TW.seq fun Y33 hY33 => TW.region ?_
  refine TL.p Pu.mv ?_
  refine TL.p Pu.mv ?_
  refine TL.p Pu.mv ?_
  refine TL.p (Pu.sw (b := 32 :: z) (Pu.ssf Tryz.underlying9 (q := a.length)) (by rw [List.drop_left' rfl])) ?_
  refine TL.p Pu.sad ?_
  refine TL.cvk rfl rfl (enters Tryz.func36 rfl rfl) (M := [.blk bk 3 [.int .i64 (ckL σ a : Int)]]) (Pick.perm pk9) (fun w hw => by
      exact knot1_any (ckL_lt hσ) (by simp only [List.length_append, List.length_cons, List.length_nil]; omega) (hw.sub (KSub.cons pk9 KSub.nil)).self) ?_
  rintro ⟨⟩
  simp only [List.cons_append, List.nil_append]
  refine TL.nil (TQ.thenN (hY33 _ _ ?_))
  refine TW.region ?_
  refine TL.p Pu.mv ?_
  refine TL.p Pu.as ?_
  refine TL.nil ?_
  refine TQ.blkN ?_
  refine TQ.thenN (hZ0 (n + 1) R (ckL (ckL σ a) (32 :: z ++ [10])) s2 _ _ ?_ ?_ fs9 ?_)
  refine ⟨?_, ckL_lt (ckL_lt hσ), by omega, tk_ok htk.yes hct⟩
  have hf : f ≠ [69] := by simpa using ‹(!decide (f = [69])) = true›
  have hck : k = (ckL σ a : Int) := by
    have h9 : (ckL σ a : Int) = k := by simpa using ‹(!decide ((ckL σ a : Int) = k)) = false›
    exact h9.symm
  rw [hB hf, htk.yes]
  exact (if_pos hck).symm
  omega
  exact ks9
  refine RG.ts 12 rfl ?_
  refine RG.ts 13 rfl ?_
  refine RG.ts 14 rfl ?_
  refine RG.ts 15 rfl ?_
  refine RG.ts 16 rfl ?_
  refine RG.ts 17 rfl ?_
  refine RG.tk 18 rfl Pu.kf ?_
  refine RG.tk 19 rfl Pu.kf ?_
  refine RG.tk 20 rfl Pu.as ?_
  refine RG.nil ?_ (by kernel_rfl)
  refine TQ.thenN (hY29 _ _ ?_)
  refine TW.condF rfl rfl ?_
  refine TW.seq fun Y34 hY34 => TW.region ?_
  refine TL.p Pu.mv ?_
  refine TL.p Pu.as ?_
  refine TL.nil (TQ.thenN (hY34 _ _ ?_))
  refine TW.condF rfl ((by simpa using ‹(!decide (f = [69])) = true›)) ?_
  refine TW.skip ?_
  refine TQ.blkN ?_
  refine TQ.thenN (hY24 _ _ ?_)
  refine TW.seq fun Y35 hY35 => TW.region ?_
  refine TL.p Pu.mv ?_
  refine TL.p Pu.mv ?_
  refine TL.p Pu.mv ?_
  refine TL.p (Pu.sw (b := 32 :: z) (Pu.ssf Tryz.underlying9 (q := a.length)) (by rw [List.drop_left' rfl])) ?_
  refine TL.p Pu.sad ?_
  refine TL.cvk rfl rfl (enters Tryz.func36 rfl rfl) (M := [.blk bk 3 [.int .i64 (ckL σ a : Int)]]) (Pick.perm pk9) (fun w hw => by
      exact knot1_any (ckL_lt hσ) (by simp only [List.length_append, List.length_cons, List.length_nil]; omega) (hw.sub (KSub.cons pk9 KSub.nil)).self) ?_
  rintro ⟨⟩
  simp only [List.cons_append, List.nil_append]
  refine TL.nil (TQ.thenN (hY35 _ _ ?_))
  refine TW.region ?_
  refine TL.p Pu.mv ?_
  refine TL.p Pu.as ?_
  refine TL.nil ?_
  refine TQ.blkN ?_
  refine TQ.thenN (hZ0 (n + 1) R (ckL (ckL σ a) (32 :: z ++ [10])) s2 _ _ ?_ ?_ fs9 ?_)
  refine ⟨?_, ckL_lt (ckL_lt hσ), by omega, tk_ok htk.yes hct⟩
  have hf : f ≠ [69] := by simpa using ‹(!decide (f = [69])) = true›
  have hck : k = (ckL σ a : Int) := by
    have h9 : (ckL σ a : Int) = k := by simpa using ‹(!decide ((ckL σ a : Int) = k)) = false›
    exact h9.symm
  rw [hB hf, htk.yes]
  exact (if_pos hck).symm
  omega
  exact ks9
  refine TL.gs ?_
  refine TL.gs ?_
  refine TL.gs ?_
  refine TL.gs ?_
  refine TL.p Pu.kf ?_
  refine TL.p Pu.as ?_
  refine TL.nil (TQ.thenN (hY27 _ _ ?_))
  refine TW.condF rfl rfl ?_
  refine TW.seq fun Y36 hY36 => ?_
  refine TW.ex0k [.own B1 1 e1 3 1 (iL [k]), .own B2 m2.length e2 3 1 (iL m2)] ?_
  refine RG.tk 0 rfl Pu.mv ?_
  refine RG.tk 1 rfl Pu.mv ?_
  refine RG.tk 2 rfl Pu.mv ?_
  refine RG.tk 5 rfl Pu.mv ?_
  refine RG.tk 6 rfl (Pu.el (q := 0) ty_et42 (hk := rfl)) ?_
  refine RG.tk 7 rfl (Pu.iv (a := ([k] : List Int).getD 0 0) (b := k) (Pu.ld ty_sc3) rfl) ?_
  refine RG.a1 3 rfl (fun X3 hX3 => ?_)
  refine TL.p (Pu.sw (b := a) (Pu.ssh Tryz.underlying9 (q := a.length)) (List.take_left' rfl)) ?_
  refine TL.nil ?_
  refine TQ.nxt (hX3 _ _ hl9 ?_)
  refine RG.a1 4 rfl (fun X4 hX4 => ?_)
  refine TL.cvk rfl rfl (enters Tryz.func36 rfl rfl) (M := [.blk bk 3 [.int .i64 (σ : Int)]]) (Pick.perm pk9) (fun w hw => by
      exact knot1_any hσ (by omega) (hw.sub (KSub.cons pk9 KSub.nil)).self) ?_
  rintro ⟨⟩
  simp only [List.cons_append, List.nil_append]
  refine TL.nil ?_
  refine TQ.nxt (hX4 _ _ hl9 ?_)
  refine RG.tk 8 rfl Pu.ne ?_
  refine RG.tk 9 rfl Pu.mv ?_
  refine RG.guard (t := 111) rfl (fun hg4 => ?_) (fun hg4 => ?_)
  refine RG.ts 10 rfl ?_
  refine RG.ts 11 rfl ?_
  refine RG.ts 12 rfl ?_
  refine RG.ts 13 rfl ?_
  refine RG.ts 14 rfl ?_
  refine RG.ts 15 rfl ?_
  refine RG.ts 16 rfl ?_
  refine RG.ts 17 rfl ?_
  refine RG.ts 18 rfl ?_
  refine RG.tk 19 rfl Pu.kt ?_
  refine RG.tk 20 rfl Pu.as ?_
  refine RG.nil ?_ (by kernel_rfl)
  refine TQ.thenN (hY36 _ _ ?_)
  refine TW.condT rfl rfl ?_
  refine TW.seq fun Y37 hY37 => TW.region ?_
  refine TL.p Pu.mv ?_
  refine TL.p Pu.as ?_
  refine TL.p Pu.as ?_
  refine TL.nil (TQ.thenN (hY37 _ _ ?_))
  refine TW.ret ?_
  refine TQ.blkR ?_
  refine TQ.thenR ?_
  refine TQ.blkR ?_
  refine TQ.thenR ?_
  refine TQ.blkR ?_
  refine TQ.thenR ?_
  refine TQ.ret Tryz.results10 rfl ((.tmp rfl (.tmp rfl .nil))) ?_
  first
  | exact fun w hw => ⟨⟨((_, _), s2), UnR.err (hVV.trans hVe) (by decide) s2⟩, rfl, hw.sub (KSub.cons pk9 KSub.nil)⟩
  | exact fun w hw => ⟨⟨((_, _), s), UnR.err (hVV.trans hVe) (by decide) s⟩, rfl, hw.sub (KSub.cons pk9 KSub.nil)⟩
  | exact fun w hw => ⟨⟨((_, _), s), UnR.err (hVV.trans (show V = ((n : Int) + 1, 104, ct s) by
      by_cases h2 : f = [69]
      by_cases h4 : k = (ckL σ a : Int) ∧ m0 = (n : Int)
      exact False.elim (by
      first
      | exact absurd ‹(!decide ((ckL σ a : Int) = k)) = true› (by simp [h4.1])
      | exact absurd ‹(!decide (m0 = (n : Int))) = true› (by simp [h4.2])
      | exact absurd h4.2 ‹¬ (m0 = (n : Int))›
      | exact absurd ‹(!decide (f = [69])) = true› (by simp [h2])
      | exact absurd ‹decide (f = [69]) = false› (by simp [h2]))
      rw [hA h2, if_neg h4]
      first
      | exact absurd ‹(!decide (f = [69])) = false› (by simp [h2])
      | exact absurd ‹decide (f = [69]) = true› (by simp [h2]))) (by decide) s⟩, rfl, hw.sub (KSub.cons pk9 KSub.nil)⟩
  | exact fun w hw => ⟨⟨((_, _), s2), UnR.err (hVV.trans (show V = ((n : Int) + 1, 104, ct s) by
      by_cases h2 : f = [69]
      first
      | exact absurd ‹(!decide (f = [69])) = true› (by simp [h2])
      | exact absurd ‹decide (f = [69]) = false› (by simp [h2])
      first
      | exact absurd ‹decide (f = [69]) = true› (by simp [h2])
      | (rw [hB h2, htk.yes]; exact if_neg (fun e => absurd ‹(!decide ((ckL σ a : Int) = k)) = true› (by simp [e]))))) (by decide) s2⟩, rfl, hw.sub (KSub.cons pk9 KSub.nil)⟩
  | exact fun w hw => ⟨⟨((0, 0), s), UnR.fin (hVV.trans (show V = (0, 0, ct s) by
      have h2 : f = [69] := by simpa using ‹(!decide (f = [69])) = false›
      have h3 : (ckL σ a : Int) = k := by simpa using ‹(!decide ((ckL σ a : Int) = k)) = false›
      have h4 : m0 = (n : Int) := by first | assumption | (simpa using ‹(!decide (m0 = (n : Int))) = false›) | exact absurd ‹decide (f = [69]) = false› (by simp [h2])
      rw [hA h2, if_pos ⟨h3.symm, h4⟩]))⟩, rfl, hw.sub (KSub.cons pk9 KSub.nil)⟩
  | trace_state
  refine RG.tk 10 rfl Pu.mv ?_
  refine RG.tk 11 rfl Pu.mv ?_
  refine RG.guard (t := 113) rfl (fun hg5 => ?_) (fun hg5 => ?_)
  refine RG.tk 12 rfl Pu.mv ?_
  refine RG.tk 13 rfl (by have hm1 := hEn (by assumption); exact Pu.el (q := 0) ty_et42 (hk := rfl)) ?_
  refine RG.tk 14 rfl (by have hm1 := hEn (by assumption); exact Pu.iv (a := m2.getD 0 0) (b := m0) (Pu.ld ty_sc3) hm0) ?_
  refine RG.tk 15 rfl Pu.mv ?_
  refine RG.tk 16 rfl (Pu.iv (b := (n : Int)) Pu.sb (by omega)) ?_
  refine RG.tk 17 rfl Pu.ne ?_
  refine RG.tk 18 rfl Pu.kt ?_
  refine RG.tk 19 rfl Pu.kf ?_
  refine RG.tk 20 rfl Pu.as ?_
  refine RG.nil ?_ (by kernel_rfl)
  refine TQ.thenN (hY36 _ _ ?_)
  refine TW.cond rfl (fun hc6 => ?_) (fun hc6 => ?_)
  try simp only [zcb9] at hc6
  refine TW.seq fun Y38 hY38 => TW.region ?_
  refine TL.p Pu.mv ?_
  refine TL.p Pu.as ?_
  refine TL.p Pu.as ?_
  refine TL.nil (TQ.thenN (hY38 _ _ ?_))
  refine TW.ret ?_
  refine TQ.blkR ?_
  refine TQ.thenR ?_
  refine TQ.blkR ?_
  refine TQ.thenR ?_
  refine TQ.blkR ?_
  refine TQ.thenR ?_
  refine TQ.ret Tryz.results10 rfl ((.tmp rfl (.tmp rfl .nil))) ?_
  first
  | exact fun w hw => ⟨⟨((_, _), s2), UnR.err (hVV.trans hVe) (by decide) s2⟩, rfl, hw.sub (KSub.cons pk9 KSub.nil)⟩
  | exact fun w hw => ⟨⟨((_, _), s), UnR.err (hVV.trans hVe) (by decide) s⟩, rfl, hw.sub (KSub.cons pk9 KSub.nil)⟩
  | exact fun w hw => ⟨⟨((_, _), s), UnR.err (hVV.trans (show V = ((n : Int) + 1, 104, ct s) by
      by_cases h2 : f = [69]
      by_cases h4 : k = (ckL σ a : Int) ∧ m0 = (n : Int)
      exact False.elim (by
      first
      | exact absurd ‹(!decide ((ckL σ a : Int) = k)) = true› (by simp [h4.1])
      | exact absurd ‹(!decide (m0 = (n : Int))) = true› (by simp [h4.2])
      | exact absurd h4.2 ‹¬ (m0 = (n : Int))›
      | exact absurd ‹(!decide (f = [69])) = true› (by simp [h2])
      | exact absurd ‹decide (f = [69]) = false› (by simp [h2]))
      rw [hA h2, if_neg h4]
      first
      | exact absurd ‹(!decide (f = [69])) = false› (by simp [h2])
      | exact absurd ‹decide (f = [69]) = true› (by simp [h2]))) (by decide) s⟩, rfl, hw.sub (KSub.cons pk9 KSub.nil)⟩
  | exact fun w hw => ⟨⟨((_, _), s2), UnR.err (hVV.trans (show V = ((n : Int) + 1, 104, ct s) by
      by_cases h2 : f = [69]
      first
      | exact absurd ‹(!decide (f = [69])) = true› (by simp [h2])
      | exact absurd ‹decide (f = [69]) = false› (by simp [h2])
      first
      | exact absurd ‹decide (f = [69]) = true› (by simp [h2])
      | (rw [hB h2, htk.yes]; exact if_neg (fun e => absurd ‹(!decide ((ckL σ a : Int) = k)) = true› (by simp [e]))))) (by decide) s2⟩, rfl, hw.sub (KSub.cons pk9 KSub.nil)⟩
  | exact fun w hw => ⟨⟨((0, 0), s), UnR.fin (hVV.trans (show V = (0, 0, ct s) by
      have h2 : f = [69] := by simpa using ‹(!decide (f = [69])) = false›
      have h3 : (ckL σ a : Int) = k := by simpa using ‹(!decide ((ckL σ a : Int) = k)) = false›
      have h4 : m0 = (n : Int) := by first | assumption | (simpa using ‹(!decide (m0 = (n : Int))) = false›) | exact absurd ‹decide (f = [69]) = false› (by simp [h2])
      rw [hA h2, if_pos ⟨h3.symm, h4⟩]))⟩, rfl, hw.sub (KSub.cons pk9 KSub.nil)⟩
  | trace_state
  try simp only [zcb9] at hc6
  refine TW.seq fun Y39 hY39 => TW.region ?_
  refine TL.p Pu.mv ?_
  refine TL.p Pu.as ?_
  refine TL.nil (TQ.thenN (hY39 _ _ ?_))
  refine TW.condT rfl ((by simpa using ‹(!decide (f = [69])) = false›)) ?_
  refine TW.seq fun Y40 hY40 => TW.region ?_
  refine TL.p Pu.as ?_
  refine TL.p Pu.as ?_
  refine TL.nil (TQ.thenN (hY40 _ _ ?_))
  refine TW.ret ?_
  refine TQ.blkR ?_
  refine TQ.thenR ?_
  refine TQ.blkR ?_
  refine TQ.thenR ?_
  refine TQ.blkR ?_
  refine TQ.thenR ?_
  refine TQ.ret Tryz.results10 rfl ((.tmp rfl (.tmp rfl .nil))) ?_
  first
  | exact fun w hw => ⟨⟨((_, _), s2), UnR.err (hVV.trans hVe) (by decide) s2⟩, rfl, hw.sub (KSub.cons pk9 KSub.nil)⟩
  | exact fun w hw => ⟨⟨((_, _), s), UnR.err (hVV.trans hVe) (by decide) s⟩, rfl, hw.sub (KSub.cons pk9 KSub.nil)⟩
  | exact fun w hw => ⟨⟨((_, _), s), UnR.err (hVV.trans (show V = ((n : Int) + 1, 104, ct s) by
      by_cases h2 : f = [69]
      by_cases h4 : k = (ckL σ a : Int) ∧ m0 = (n : Int)
      exact False.elim (by
      first
      | exact absurd ‹(!decide ((ckL σ a : Int) = k)) = true› (by simp [h4.1])
      | exact absurd ‹(!decide (m0 = (n : Int))) = true› (by simp [h4.2])
      | exact absurd h4.2 ‹¬ (m0 = (n : Int))›
      | exact absurd ‹(!decide (f = [69])) = true› (by simp [h2])
      | exact absurd ‹decide (f = [69]) = false› (by simp [h2]))
      rw [hA h2, if_neg h4]
      first
      | exact absurd ‹(!decide (f = [69])) = false› (by simp [h2])
      | exact absurd ‹decide (f = [69]) = true› (by simp [h2]))) (by decide) s⟩, rfl, hw.sub (KSub.cons pk9 KSub.nil)⟩
  | exact fun w hw => ⟨⟨((_, _), s2), UnR.err (hVV.trans (show V = ((n : Int) + 1, 104, ct s) by
      by_cases h2 : f = [69]
      first
      | exact absurd ‹(!decide (f = [69])) = true› (by simp [h2])
      | exact absurd ‹decide (f = [69]) = false› (by simp [h2])
      first
      | exact absurd ‹decide (f = [69]) = true› (by simp [h2])
      | (rw [hB h2, htk.yes]; exact if_neg (fun e => absurd ‹(!decide ((ckL σ a : Int) = k)) = true› (by simp [e]))))) (by decide) s2⟩, rfl, hw.sub (KSub.cons pk9 KSub.nil)⟩
  | exact fun w hw => ⟨⟨((0, 0), s), UnR.fin (hVV.trans (show V = (0, 0, ct s) by
      have h2 : f = [69] := by simpa using ‹(!decide (f = [69])) = false›
      have h3 : (ckL σ a : Int) = k := by simpa using ‹(!decide ((ckL σ a : Int) = k)) = false›
      have h4 : m0 = (n : Int) := by first | assumption | (simpa using ‹(!decide (m0 = (n : Int))) = false›) | exact absurd ‹decide (f = [69]) = false› (by simp [h2])
      rw [hA h2, if_pos ⟨h3.symm, h4⟩]))⟩, rfl, hw.sub (KSub.cons pk9 KSub.nil)⟩
  | trace_state
  refine RG.ts 12 rfl ?_
  refine RG.ts 13 rfl ?_
  refine RG.ts 14 rfl ?_
  refine RG.ts 15 rfl ?_
  refine RG.ts 16 rfl ?_
  refine RG.ts 17 rfl ?_
  refine RG.tk 18 rfl Pu.kf ?_
  refine RG.tk 19 rfl Pu.kf ?_
  refine RG.tk 20 rfl Pu.as ?_
  refine RG.nil ?_ (by kernel_rfl)
  refine TQ.thenN (hY36 _ _ ?_)
  refine TW.condF rfl rfl ?_
  refine TW.seq fun Y41 hY41 => TW.region ?_
  refine TL.p Pu.mv ?_
  refine TL.p Pu.as ?_
  refine TL.nil (TQ.thenN (hY41 _ _ ?_))
  refine TW.condT rfl ((by simpa using ‹(!decide (f = [69])) = false›)) ?_
  refine TW.seq fun Y42 hY42 => TW.region ?_
  refine TL.p Pu.as ?_
  refine TL.p Pu.as ?_
  refine TL.nil (TQ.thenN (hY42 _ _ ?_))
  refine TW.ret ?_
  refine TQ.blkR ?_
  refine TQ.thenR ?_
  refine TQ.blkR ?_
  refine TQ.thenR ?_
  refine TQ.blkR ?_
  refine TQ.thenR ?_
  refine TQ.ret Tryz.results10 rfl ((.tmp rfl (.tmp rfl .nil))) ?_
  first
  | exact fun w hw => ⟨⟨((_, _), s2), UnR.err (hVV.trans hVe) (by decide) s2⟩, rfl, hw.sub (KSub.cons pk9 KSub.nil)⟩
  | exact fun w hw => ⟨⟨((_, _), s), UnR.err (hVV.trans hVe) (by decide) s⟩, rfl, hw.sub (KSub.cons pk9 KSub.nil)⟩
  | exact fun w hw => ⟨⟨((_, _), s), UnR.err (hVV.trans (show V = ((n : Int) + 1, 104, ct s) by
      by_cases h2 : f = [69]
      by_cases h4 : k = (ckL σ a : Int) ∧ m0 = (n : Int)
      exact False.elim (by
      first
      | exact absurd ‹(!decide ((ckL σ a : Int) = k)) = true› (by simp [h4.1])
      | exact absurd ‹(!decide (m0 = (n : Int))) = true› (by simp [h4.2])
      | exact absurd h4.2 ‹¬ (m0 = (n : Int))›
      | exact absurd ‹(!decide (f = [69])) = true› (by simp [h2])
      | exact absurd ‹decide (f = [69]) = false› (by simp [h2]))
      rw [hA h2, if_neg h4]
      first
      | exact absurd ‹(!decide (f = [69])) = false› (by simp [h2])
      | exact absurd ‹decide (f = [69]) = true› (by simp [h2]))) (by decide) s⟩, rfl, hw.sub (KSub.cons pk9 KSub.nil)⟩
  | exact fun w hw => ⟨⟨((_, _), s2), UnR.err (hVV.trans (show V = ((n : Int) + 1, 104, ct s) by
      by_cases h2 : f = [69]
      first
      | exact absurd ‹(!decide (f = [69])) = true› (by simp [h2])
      | exact absurd ‹decide (f = [69]) = false› (by simp [h2])
      first
      | exact absurd ‹decide (f = [69]) = true› (by simp [h2])
      | (rw [hB h2, htk.yes]; exact if_neg (fun e => absurd ‹(!decide ((ckL σ a : Int) = k)) = true› (by simp [e]))))) (by decide) s2⟩, rfl, hw.sub (KSub.cons pk9 KSub.nil)⟩
  | exact fun w hw => ⟨⟨((0, 0), s), UnR.fin (hVV.trans (show V = (0, 0, ct s) by
      have h2 : f = [69] := by simpa using ‹(!decide (f = [69])) = false›
      have h3 : (ckL σ a : Int) = k := by simpa using ‹(!decide ((ckL σ a : Int) = k)) = false›
      have h4 : m0 = (n : Int) := by first | assumption | (simpa using ‹(!decide (m0 = (n : Int))) = false›) | exact absurd ‹decide (f = [69]) = false› (by simp [h2])
      rw [hA h2, if_pos ⟨h3.symm, h4⟩]))⟩, rfl, hw.sub (KSub.cons pk9 KSub.nil)⟩
  | trace_state
  refine TW.region ?_
  refine TL.p Pu.mv ?_
  refine TL.p Pu.mv ?_
  refine TL.guard (t := 77) rfl (fun hg6 => ?_) (fun hg6 => ?_)
  refine TL.gd Pu.mv ?_
  refine TL.gd Pu.no ?_
  refine TL.gd Pu.mv ?_
  refine TL.guard (t := 80) rfl (fun hg7 => ?_) (fun hg7 => ?_)
  refine TL.gs ?_
  refine TL.gs ?_
  refine TL.gs ?_
  refine TL.gd Pu.kt ?_
  refine TL.gd Pu.mv ?_
  refine TL.gs ?_
  refine TL.gs ?_
  refine TL.gd Pu.kt ?_
  refine TL.p Pu.kt ?_
  refine TL.p Pu.as ?_
  refine TL.nil ?_
  exact TQ.sub (by repeat (first | exact trivial | refine ⟨rfl, ?_⟩ | refine ⟨trivial, ?_⟩ | refine ⟨(by show some (Value.bool _) = some (Value.bool _); first | (simp [hg6, hg7]; done) | (refine congrArg (fun z => some (Value.bool z)) (Bool.eq_iff_iff.2 ?_); simp [hg6, hg7]; omega)), ?_⟩)) ks9 hJ3
  refine TL.gd Pu.mv ?_
  refine TL.gd (Pu.ln Tryz.underlying42) ?_
  refine TL.gd Pu.ne ?_
  refine TL.gd Pu.kf ?_
  refine TL.gd Pu.mv ?_
  refine TL.guard (t := 85) rfl (fun hg8 => ?_) (fun hg8 => ?_)
  refine TL.gs ?_
  refine TL.gs ?_
  refine TL.gd Pu.kt ?_
  refine TL.p Pu.kt ?_
  refine TL.p Pu.as ?_
  refine TL.nil ?_
  exact TQ.sub (by repeat (first | exact trivial | refine ⟨rfl, ?_⟩ | refine ⟨trivial, ?_⟩ | refine ⟨(by show some (Value.bool _) = some (Value.bool _); first | (simp [hg6, hg7, hg8]; done) | (refine congrArg (fun z => some (Value.bool z)) (Bool.eq_iff_iff.2 ?_); simp [hg6, hg7, hg8]; omega)), ?_⟩)) ks9 hJ3
  refine TL.gd Pu.mv ?_
  refine TL.gd Pu.sne ?_
  refine TL.gd Pu.kf ?_
  refine TL.p Pu.kt ?_
  refine TL.p Pu.as ?_
  refine TL.nil ?_
  exact TQ.sub (by repeat (first | exact trivial | refine ⟨rfl, ?_⟩ | refine ⟨trivial, ?_⟩ | refine ⟨(by show some (Value.bool _) = some (Value.bool _); first | (simp [hg6, hg7, hg8]; done) | (refine congrArg (fun z => some (Value.bool z)) (Bool.eq_iff_iff.2 ?_); simp [hg6, hg7, hg8]; omega)), ?_⟩)) ks9 hJ3
  refine TL.gs ?_
  refine TL.gs ?_
  refine TL.gs ?_
  refine TL.gs ?_
  refine TL.gs ?_
  refine TL.gs ?_
  refine TL.gs ?_
  refine TL.gs ?_
  refine TL.gs ?_
  refine TL.gs ?_
  refine TL.gs ?_
  refine TL.p Pu.kf ?_
  refine TL.p Pu.as ?_
  refine TL.nil ?_
  exact TQ.sub (by repeat (first | exact trivial | refine ⟨rfl, ?_⟩ | refine ⟨trivial, ?_⟩ | refine ⟨(by show some (Value.bool _) = some (Value.bool _); first | (simp [hg6]; done) | (refine congrArg (fun z => some (Value.bool z)) (Bool.eq_iff_iff.2 ?_); simp [hg6]; omega)), ?_⟩)) ks9 hJ3
  refine TW.region ?_
  refine TL.p Pu.mv ?_
  refine TL.p Pu.no ?_
  refine TL.p Pu.mv ?_
  refine TL.guard (t := 58) rfl (fun hg9 => ?_) (fun hg9 => ?_)
  refine TL.gs ?_
  refine TL.gs ?_
  refine TL.gs ?_
  refine TL.gs ?_
  refine TL.p Pu.kt ?_
  refine TL.nil ?_
  exact TQ.sub (by repeat (first | exact trivial | refine ⟨rfl, ?_⟩ | refine ⟨trivial, ?_⟩ | refine ⟨(by show some (Value.bool _) = some (Value.bool _); first | (simp [hg9]; done) | (refine congrArg (fun z => some (Value.bool z)) (Bool.eq_iff_iff.2 ?_); simp [hg9]; omega)), ?_⟩)) ks9 hJ2
  refine TL.gd Pu.mv ?_
  refine TL.gd (Pu.el (q := 0) ty_et41 (hk := rfl)) ?_
  refine TL.gd (Pu.sw (a := (f :: l0).getD 0 []) (b := f) (Pu.ld ty_sc9) rfl) ?_
  refine TL.gd Pu.seq_ ?_
  refine TL.p Pu.kf ?_
  refine TL.nil ?_
  exact TQ.sub (by repeat (first | exact trivial | refine ⟨rfl, ?_⟩ | refine ⟨trivial, ?_⟩ | refine ⟨(by show some (Value.bool _) = some (Value.bool _); first | (simp [hg9]; done) | (refine congrArg (fun z => some (Value.bool z)) (Bool.eq_iff_iff.2 ?_); simp [hg9]; omega)), ?_⟩)) ks9 hJ2
  refine TW.region ?_
  refine TL.p Pu.mv ?_
  refine TL.p Pu.no ?_
  refine TL.p Pu.mv ?_
  refine TL.guard (t := 38) rfl (fun hg10 => ?_) (fun hg10 => ?_)
  refine TL.gs ?_
  refine TL.gs ?_
  refine TL.p Pu.kt ?_
  refine TL.nil ?_
  exact TQ.sub (by repeat (first | exact trivial | refine ⟨rfl, ?_⟩ | refine ⟨trivial, ?_⟩ | refine ⟨(by show some (Value.bool _) = some (Value.bool _); first | (simp [hg10]; done) | (refine congrArg (fun z => some (Value.bool z)) (Bool.eq_iff_iff.2 ?_); simp [hg10]; omega)), ?_⟩)) ks9 hJ1
  refine TL.gd Pu.mv ?_
  refine TL.gd Pu.lt ?_
  refine TL.p Pu.kf ?_
  refine TL.nil ?_
  exact TQ.sub (by repeat (first | exact trivial | refine ⟨rfl, ?_⟩ | refine ⟨trivial, ?_⟩ | refine ⟨(by show some (Value.bool _) = some (Value.bool _); first | (simp [hg10]; done) | (refine congrArg (fun z => some (Value.bool z)) (Bool.eq_iff_iff.2 ?_); simp [hg10]; omega)), ?_⟩)) ks9 hJ1
  try simp only [zcb9] at hc1
  have hT0 : T = [] := by simpa using hc1
  subst hT0
  have hVe : V = ((n : Int) + 1, 103, ct s) := by rw [← hV1]; exact v_no (by simp)
  refine TW.exit ?_
  refine TQ.thenX ?_
  refine TQ.thenX ?_
  refine TQ.blkX ?_
  refine TQ.thenN (hY7 _ _ ?_)
  refine TW.seq fun Y43 hY43 => TW.region ?_
  refine TL.p Pu.mv ?_
  refine TL.p Pu.ad ?_
  refine TL.p Pu.as ?_
  refine TL.p Pu.as ?_
  refine TL.nil (TQ.thenN (hY43 _ _ ?_))
  refine TW.ret ?_
  refine TQ.ret Tryz.results10 rfl ((.tmp rfl (.tmp rfl .nil))) ?_
  first
  | exact fun w hw => ⟨⟨((_, _), s2), UnR.err (hVV.trans hVe) (by decide) s2⟩, rfl, hw.sub (KSub.cons pk9 KSub.nil)⟩
  | exact fun w hw => ⟨⟨((_, _), s), UnR.err (hVV.trans hVe) (by decide) s⟩, rfl, hw.sub (KSub.cons pk9 KSub.nil)⟩
  | exact fun w hw => ⟨⟨((_, _), s), UnR.err (hVV.trans (show V = ((n : Int) + 1, 104, ct s) by
      by_cases h2 : f = [69]
      by_cases h4 : k = (ckL σ a : Int) ∧ m0 = (n : Int)
      exact False.elim (by
      first
      | exact absurd ‹(!decide ((ckL σ a : Int) = k)) = true› (by simp [h4.1])
      | exact absurd ‹(!decide (m0 = (n : Int))) = true› (by simp [h4.2])
      | exact absurd h4.2 ‹¬ (m0 = (n : Int))›
      | exact absurd ‹(!decide (f = [69])) = true› (by simp [h2])
      | exact absurd ‹decide (f = [69]) = false› (by simp [h2]))
      rw [hA h2, if_neg h4]
      first
      | exact absurd ‹(!decide (f = [69])) = false› (by simp [h2])
      | exact absurd ‹decide (f = [69]) = true› (by simp [h2]))) (by decide) s⟩, rfl, hw.sub (KSub.cons pk9 KSub.nil)⟩
  | exact fun w hw => ⟨⟨((_, _), s2), UnR.err (hVV.trans (show V = ((n : Int) + 1, 104, ct s) by
      by_cases h2 : f = [69]
      first
      | exact absurd ‹(!decide (f = [69])) = true› (by simp [h2])
      | exact absurd ‹decide (f = [69]) = false› (by simp [h2])
      first
      | exact absurd ‹decide (f = [69]) = true› (by simp [h2])
      | (rw [hB h2, htk.yes]; exact if_neg (fun e => absurd ‹(!decide ((ckL σ a : Int) = k)) = true› (by simp [e]))))) (by decide) s2⟩, rfl, hw.sub (KSub.cons pk9 KSub.nil)⟩
  | exact fun w hw => ⟨⟨((0, 0), s), UnR.fin (hVV.trans (show V = (0, 0, ct s) by
      have h2 : f = [69] := by simpa using ‹(!decide (f = [69])) = false›
      have h3 : (ckL σ a : Int) = k := by simpa using ‹(!decide ((ckL σ a : Int) = k)) = false›
      have h4 : m0 = (n : Int) := by first | assumption | (simpa using ‹(!decide (m0 = (n : Int))) = false›) | exact absurd ‹decide (f = [69]) = false› (by simp [h2])
      rw [hA h2, if_pos ⟨h3.symm, h4⟩]))⟩, rfl, hw.sub (KSub.cons pk9 KSub.nil)⟩
  | trace_state
end
end Go.Proofs.YtfgnbkegdjkdmaaGreatDoor
namespace Go.Proofs.YtfgnbkegdjkdmaaGreatDoor
set_option linter.all false
set_option linter.unusedVariables false
set_option linter.unusedSimpArgs false
open Go.RowKit Go.Lib
theorem feet_bun {K : List Fact} : feet [bun K] = feet K := by
 show (bun K).foot ++ [] = feet K
 rw [List.append_nil]
 rfl
theorem bun_call {f : FuncId} {args : Array Value} {K1 : List Fact} {w : World} {X : Type} {val : X → Value} {L : X → List Fact} (h : CallsK Tryz.prog f args K1 w X val L) : CallsK Tryz.prog f args [bun K1] w X val (fun x => [bun (L x)]) := by
 refine Calls.mono h ?_
 rintro e w' ⟨x, rfl, hs⟩
 refine ⟨x, rfl, ?_⟩
 rw [feet_bun]
 refine Sat.bun (K := []) ?_
 rw [List.append_nil]
 exact hs
theorem unbun1 {K1 : List Fact} {w : World} (h : Sat (feet [bun K1]) w [bun K1] w) : Sat (feet K1) w K1 w := by
 have h1 := Sat.unbun (K := []) h
 rw [List.append_nil] at h1
 rw [← feet_bun]
 exact h1
theorem takesB (b : Nat) : Takes (fun S => bun (bkM b S)) Bk.cont false 11 [.pointer (some ⟨b, 0, none⟩)] := by
 intro s f l0 n cp A w hE hn hl hx hcp hct hM hF hR hA
 rw [feet_bun] at hF hA
 exact bun_call (takeB_any hE hn hl hx hcp hct (unbun1 hM) hF hR hA)
theorem takesG (b : Nat) : Takes (fun S => bun (lgM b S)) Lg.cont true 16 [.pointer (some ⟨b, 0, none⟩)] := by
 intro s f l0 n cp A w hE hn hl hx hcp hct hM hF hR hA
 rw [feet_bun] at hF hA
 exact bun_call (takeG_any hE hn hl hx hcp hct (unbun1 hM) hF hR hA)
def rdC (V : Int × Int × Cont) : Cont := if V.2.1 = 0 then V.2.2 else ⟨[], [], []⟩
def bkO (S : Bk) : List Fact := [.own S.R S.rows.length S.cr 48 14 (rwT S.rows), .own S.L S.lets.length S.cl 51 8 (ltT S.lets)]
def lgO (S : Lg) : List Fact := [.own S.A S.es.length S.c 62 3 (enT S.es), bun (agF S.es)]
def bk0 : Bk := ⟨none, 0, [], none, 0, []⟩
def lg0 : Lg := ⟨none, 0, []⟩
def RdR9 {St : Type} (ct : St → Cont) (V : Int × Int × Cont) (x : (Int × Int) × St) : Prop := x.1.1 = V.1 ∧ x.1.2 = V.2.1 ∧ ct x.2 = rdC V
theorem RdR9.err {St : Type} {ct : St → Cont} {V : Int × Int × Cont} {x : (Int × Int) × St} {s : St} (h : UnR ct V x) (he : x.1.2 ≠ 0) (hs : ct s = ⟨[], [], []⟩) : RdR9 ct V (x.1, s) := by
 obtain ⟨h1, h2, h3⟩ := h
 refine ⟨h1, h2, ?_⟩
 unfold rdC
 rw [if_neg (by rw [← h2]; exact he)]
 exact hs
theorem rd_zero {isLog : Bool} : ∀ {k s n : Nat} {c : Cont} {t : List UInt8}, (rdF isLog k c s n t).2.1 = 0 → (rdF isLog k c s n t).1 = 0 := fun h => by
 rcases rd_err (isLog := isLog) with h1 | h1 | h1
 · exact h1.2
 · rw [h] at h1; cases h1
 · rw [h] at h1; cases h1
theorem rdW_zero {isLog : Bool} {t : List UInt8} (h : (rdW isLog t).2.1 = 0) : (rdW isLog t).1 = 0 := by
 unfold rdW at h ⊢
 split
 · rfl
 · rename_i h1
   rw [if_neg h1] at h
   exact rd_zero h
theorem RdR9.ok {St : Type} {ct : St → Cont} {isLog : Bool} {t : List UInt8} {x : (Int × Int) × St} (h : UnR ct (rdW isLog t) x) (he : x.1.2 = 0) : RdR9 ct (rdW isLog t) ((0, 0), x.2) := by
 obtain ⟨h1, h2, h3⟩ := h
 have h4 : (rdW isLog t).2.1 = 0 := by rw [← h2]; exact he
 refine ⟨(rdW_zero h4).symm, h4.symm, ?_⟩
 unfold rdC
 rw [if_pos h4]
 exact h3 h4
set_option maxRecDepth 100000 in
set_option maxHeartbeats 4000000 in
theorem readBook_any {t : List UInt8} {w : World} (hE : RdW w) (ht : t.length ≤ 40000) : CallsK Tryz.prog 4 #[sv t] [] w { x : (Int × Int) × Bk // RdR9 Bk.cont (rdW false t) x }
  (fun x => .tuple #[.agg #[.slice x.1.2.R x.1.2.rows.length x.1.2.cr, .slice x.1.2.L x.1.2.lets.length x.1.2.cl], .int .i64 x.1.1.1, .int .i64 x.1.1.2]) (fun x => bkO x.1.2) := by
 refine K_enter (S := []) (K := []) Tryz.func4 rfl Tryz.ntmps4 rfl (Sat.start _) ?_
 refine TW.seq fun Y1 hY1 => TW.region ?_
 refine TL.m (Mk.al ty_zr25) ?_
 intro b1
 refine TL.p Pu.as ?_
 refine TL.p Pu.as ?_
 refine TL.nil (TQ.thenN (hY1 _ _ ?_))
 refine TW.seq fun Y2 hY2 => TW.region ?_
 refine TL.p Pu.mv ?_
 refine TL.p Pu.fn ?_
 refine TL.subK (K' := bkM b1 bk0 ++ []) (KSub.cons pk9 (KSub.nilOwn (KSub.nilOwn KSub.nil))) ?_
 refine TL.bun ?_
 refine TL.call rfl (enters Tryz.func10 rfl rfl) (M := [bun (bkM b1 bk0)]) (List.Perm.refl _) rfl (fun w hw => by
   exact untwist_any (φ := fun S => bun (bkM b1 S)) (cs := [.pointer (some ⟨b1, 0, none⟩)]) (enters Tryz.func11 rfl rfl) (takesB b1) (hE.sat hw Far.nil) rfl ht hw.self (far_of hw Far.nil hE)) ?_
 rintro ⟨⟨⟨ln, er⟩, S⟩, hx⟩
 dsimp only
 refine TL.unb (K1 := bkM b1 S) pk9 ?_
 refine TL.p Pu.mv ?_
 refine TL.p Pu.ex ?_
 refine TL.p Pu.ex ?_
 refine TL.p Pu.as ?_
 refine TL.p Pu.as ?_
 refine TL.nil (TQ.thenN (hY2 _ _ ?_))
 refine TW.seq fun Y3 hY3 => ?_
 refine TW.seq fun Y4 hY4 => TW.region ?_
 refine TL.p Pu.mv ?_
 refine TL.p Pu.ne ?_
 refine TL.nil (TQ.thenN (hY4 _ _ ?_))
 refine TW.cond rfl (fun hc0 => ?_) (fun hc0 => ?_)
 try simp only [zcb9] at hc0
 refine TW.seq fun Y5 hY5 => TW.region ?_
 refine TL.p Pu.bd ?_
 refine TL.p Pu.mv ?_
 refine TL.p Pu.mv ?_
 first | refine TL.st ty_sz25 ?_ | refine TL.se ty_sz25 ?_
 refine TL.p Pu.as ?_
 refine TL.p Pu.as ?_
 refine TL.nil (TQ.thenN (hY5 _ _ ?_))
 refine TW.ret ?_
 refine TQ.thenR ?_
 refine TQ.ret Tryz.results4 rfl ((RV.cs ty_ag25 (.tmp rfl (.tmp rfl .nil)))) ?_
 exact fun w hw => ⟨⟨((ln, er), bk0), RdR9.err hx (by simpa using hc0) rfl⟩, rfl, hw.sub (KSub.nilOwn (KSub.nilOwn KSub.nil))⟩
 try simp only [zcb9] at hc0
 refine TW.skip ?_
 refine TQ.thenN (hY3 _ _ ?_)
 refine TW.seq fun Y6 hY6 => TW.region ?_
 refine TL.p (Pu.lds ty_ag25) ?_
 first | refine TL.st ty_sz25 ?_ | refine TL.se ty_sz25 ?_
 refine TL.p Pu.as ?_
 refine TL.p Pu.as ?_
 refine TL.nil (TQ.thenN (hY6 _ _ ?_))
 refine TW.ret ?_
 refine TQ.ret Tryz.results4 rfl ((RV.cs ty_ag25 (.tmp rfl (.tmp rfl .nil)))) ?_
 exact fun w hw => ⟨⟨((0, 0), S), RdR9.ok hx (by simpa using hc0)⟩, rfl, hw.sub (KSub.cons pk9 (KSub.cons pk9 KSub.nil))⟩
set_option maxRecDepth 100000 in
set_option maxHeartbeats 4000000 in
theorem readLog_any {t : List UInt8} {w : World} (hE : RdW w) (ht : t.length ≤ 40000) : CallsK Tryz.prog 6 #[sv t] [] w { x : (Int × Int) × Lg // RdR9 Lg.cont (rdW true t) x }
  (fun x => .tuple #[.slice x.1.2.A x.1.2.es.length x.1.2.c, .int .i64 x.1.1.1, .int .i64 x.1.1.2]) (fun x => lgO x.1.2) := by
 refine K_enter (S := []) (K := []) Tryz.func6 rfl Tryz.ntmps6 rfl (Sat.start _) ?_
 refine TW.seq fun Y1 hY1 => TW.region ?_
 refine TL.m (Mk.al ty_zr31) ?_
 intro b1
 refine TL.p Pu.as ?_
 refine TL.p Pu.as ?_
 refine TL.nil (TQ.thenN (hY1 _ _ ?_))
 refine TW.seq fun Y2 hY2 => TW.region ?_
 refine TL.p Pu.mv ?_
 refine TL.p Pu.fn ?_
 refine TL.subK (K' := ([] : List Fact) ++ [.blk b1 31 [.slice none 0 0]]) (KSub.cons pk9 KSub.nil) ?_
 refine TL.bun ?_
 refine TL.subK (K' := lgM b1 lg0 ++ []) (KSub.cons pk9 (KSub.nilOwn (KSub.cons pk9 KSub.nil))) ?_
 refine TL.bun ?_
 refine TL.call rfl (enters Tryz.func10 rfl rfl) (M := [bun (lgM b1 lg0)]) (List.Perm.refl _) rfl (fun w hw => by
   exact untwist_any (φ := fun S => bun (lgM b1 S)) (cs := [.pointer (some ⟨b1, 0, none⟩)]) (enters Tryz.func16 rfl rfl) (takesG b1) (hE.sat hw Far.nil) rfl ht hw.self (far_of hw Far.nil hE)) ?_
 rintro ⟨⟨⟨ln, er⟩, S⟩, hx⟩
 dsimp only
 refine TL.unb (K1 := lgM b1 S) pk9 ?_
 refine TL.p Pu.mv ?_
 refine TL.p Pu.ex ?_
 refine TL.p Pu.ex ?_
 refine TL.p Pu.as ?_
 refine TL.p Pu.as ?_
 refine TL.nil (TQ.thenN (hY2 _ _ ?_))
 refine TW.seq fun Y3 hY3 => ?_
 refine TW.seq fun Y4 hY4 => TW.region ?_
 refine TL.p Pu.mv ?_
 refine TL.p Pu.ne ?_
 refine TL.nil (TQ.thenN (hY4 _ _ ?_))
 refine TW.cond rfl (fun hc0 => ?_) (fun hc0 => ?_)
 try simp only [zcb9] at hc0
 refine TW.seq fun Y5 hY5 => TW.region ?_
 refine TL.p Pu.mv ?_
 refine TL.p Pu.mv ?_
 first | refine TL.st ty_sz31 ?_ | refine TL.se ty_sz31 ?_
 refine TL.p Pu.as ?_
 refine TL.p Pu.as ?_
 refine TL.nil (TQ.thenN (hY5 _ _ ?_))
 refine TW.ret ?_
 refine TQ.thenR ?_
 refine TQ.ret Tryz.results6 rfl ((RV.c1 ty_sc31 (.tmp rfl (.tmp rfl .nil)))) ?_
 exact fun w hw => ⟨⟨((ln, er), lg0), RdR9.err hx (by simpa using hc0) rfl⟩, rfl, by
  have h9 := hw.sub (L := [.own none 0 0 62 3 (enT [])]) (KSub.nilOwn KSub.nil)
  exact (Sat.bun (K1 := []) (K := [.own none 0 0 62 3 (enT [])]) h9).sub (KSub.cons pk9 (KSub.cons pk9 KSub.nil))⟩
 try simp only [zcb9] at hc0
 refine TW.skip ?_
 refine TQ.thenN (hY3 _ _ ?_)
 refine TW.seq fun Y6 hY6 => TW.region ?_
 refine TL.p (Pu.ld ty_sc31) ?_
 first | refine TL.st ty_sz31 ?_ | refine TL.se ty_sz31 ?_
 refine TL.p Pu.as ?_
 refine TL.p Pu.as ?_
 refine TL.nil (TQ.thenN (hY6 _ _ ?_))
 refine TW.ret ?_
 refine TQ.ret Tryz.results6 rfl ((RV.c1 ty_sc31 (.tmp rfl (.tmp rfl .nil)))) ?_
 exact fun w hw => ⟨⟨((0, 0), S), RdR9.ok hx (by simpa using hc0)⟩, rfl, hw.sub (KSub.cons pk9 (KSub.cons pk9 KSub.nil))⟩
end Go.Proofs.YtfgnbkegdjkdmaaGreatDoor
namespace Go.Proofs.YtfgnbkegdjkdmaaGreatDoor
set_option linter.all false
set_option linter.unusedVariables false
set_option linter.unusedSimpArgs false
open Go.RowKit Go.Lib
def WdIn (t : List UInt8) (M : List (Nat × Nat)) (ws : List (List UInt8)) : Prop := ∀ i, i < ws.length → (M.getD i (0, 0)).1 ≤ (M.getD i (0, 0)).2 ∧ (M.getD i (0, 0)).2 ≤ t.length ∧ (t.drop (M.getD i (0, 0)).1).take ((M.getD i (0, 0)).2 - (M.getD i (0, 0)).1) = ws.getD i []
theorem takeD {α : Type} {l : List α} {d : α} {j k : Nat} (h : j + k < l.length) : (l.drop j).take (k + 1) = (l.drop j).take k ++ [l.getD (j + k) d] := by
 rw [List.take_succ, List.getElem?_drop, List.getD_eq_getElem?_getD, List.getElem?_eq_getElem h]
 rfl
theorem memD {α : Type} {l : List α} {d : α} {j k : Nat} (h : j + k < l.length) : l.getD (j + k) d ∈ l.drop j := by
 rw [List.getD_eq_getElem?_getD, List.getElem?_eq_getElem h]
 show l[j + k] ∈ l.drop j
 rw [List.mem_iff_getElem]
 exact ⟨k, by rw [List.length_drop]; omega, by rw [List.getElem_drop]⟩
set_option maxRecDepth 100000 in
set_option maxHeartbeats 4000000 in
theorem rNumbers_any {t : List UInt8} {M : List (Nat × Nat)} {ws : List (List UInt8)} {ok : Bool} {ms : List Int} {A : Option Addr} {n cp j : Nat} {w : World} (ht : t.length ≤ 40000) (hn : n = ws.length) (hn2 : n ≤ 40001) (hj : j ≤ n) (hW : WdIn t M ws) (hN : NmR (ws.drop j) ok ms) (hR : RdR w 2 A n (mkT M)) :
  CallsK Tryz.prog 33 #[sv t, .slice A n cp, .int .i64 (j : Int)] [] w (Option Addr × Nat) (fun x => .tuple #[.slice x.1 ms.length x.2, .bool ok]) (fun x => [.own x.1 ms.length x.2 3 1 (iL ms)]) := by
 refine K_enter (S := []) (K := []) Tryz.func33 rfl Tryz.ntmps33 rfl (Sat.start _) ?_
 refine TW.seq fun Y1 hY1 => TW.region ?_
 refine TL.p Pu.as ?_
 refine TL.p Pu.as ?_
 refine TL.nil (TQ.thenN (hY1 _ _ ?_))
 refine TW.seq fun Y2 hY2 => TW.region ?_
 refine TL.p Pu.as ?_
 refine TL.nil (TQ.thenN (hY2 _ _ ?_))
 refine TW.seq fun Y3 hY3 => ?_
 refine TW.seq fun Y4 hY4 => TW.region ?_
 refine TL.p Pu.mv ?_
 refine TL.p Pu.as ?_
 refine TL.nil (TQ.thenN (hY4 _ _ ?_))
 refine TW.block ?_
 refine TW.loop4 (fun (k : Nat) (B : Option Addr) (c : Nat) (m : List Int) => [(9, .int .i64 ((j + k : Nat) : Int)), (8, .slice B k c), (0, sv t), (1, .slice A n cp)]) (fun k B c m => [.own B k c 3 1 (iL m)]) (fun k B c m => j + k ≤ n ∧ nmsL ((ws.drop j).take k) = some m) (fun k B c m => n - j - k) 0 none 0 [] fs9 ?_ ?_ ?_
 exact KSub.nilOwn KSub.nil
 exact ⟨by omega, rfl⟩
 rintro k B c m ⟨hk, hm⟩ Z0 hZ0
 have hml : m.length = k := by have h1 := nms_len hm; rw [List.length_take, List.length_drop] at h1; omega
 obtain ⟨x, hx9⟩ : ∃ x, ws.getD (j + k) [] = x := ⟨_, rfl⟩
 refine TW.seq fun Y5 hY5 => ?_
 refine TW.seq fun Y6 hY6 => TW.region ?_
 refine TL.p Pu.mv ?_
 refine TL.p Pu.mv ?_
 refine TL.p (Pu.ln Tryz.underlying80) ?_
 refine TL.p Pu.lt ?_
 refine TL.nil (TQ.thenN (hY6 _ _ ?_))
 refine TW.cond rfl (fun hc0 => ?_) (fun hc0 => ?_)
 try simp only [zcb9] at hc0
 have hkn : j + k < n := by omega
 have hkw : j + k < ws.length := by omega
 obtain ⟨hw1, hw2, hw3⟩ := hW (j + k) hkw
 rw [hx9] at hw3
 have hxl : x.length ≤ 40000 := by rw [← hw3, List.length_take, List.length_drop]; omega
 have hxm : x ∈ ws.drop j := by rw [← hx9]; exact memD hkw
 have htk : (ws.drop j).take (k + 1) = (ws.drop j).take k ++ [x] := by rw [takeD (d := []) hkw, hx9]
 refine TW.skip ?_
 refine TQ.thenN (hY5 _ _ ?_)
 refine TW.seq fun Y7 hY7 => ?_
 refine TW.block ?_
 refine TW.seq fun Y8 hY8 => ?_
 refine TW.dw 18 ?_
 refine RK.tk Pu.mv ?_
 refine RK.tk Pu.mv ?_
 refine RK.tk Pu.mv ?_
 refine RK.tk (Pu.el ty_et80) ?_
 refine RK.tk (by first | exact Pu.fb ty_fa85_0 | exact Pu.fe ty_fa85_0) ?_
 refine RK.tk (Pu.ld ty_sc3) ?_
 refine RK.tk Pu.mv ?_
 refine RK.tk Pu.mv ?_
 refine RK.tk (Pu.el ty_et80) ?_
 refine RK.tk (by first | exact Pu.fb ty_fa85_1 | exact Pu.fe ty_fa85_1) ?_
 refine RK.tk (Pu.ld ty_sc3) ?_
 refine RK.tk (Pu.sw (b := x) (Pu.ssb Tryz.underlying9 (p := (M.getD (j + k) (0, 0)).1) (q := (M.getD (j + k) (0, 0)).2)) hw3) ?_
 refine RK.keep ?_
 refine RK.keep ?_
 refine RK.keep ?_
 refine RK.keep ?_
 refine RK.keep ?_
 refine RK.keep ?_
 refine RK.ch [false, true, true, true, true, true] ?_ trivial
 refine WK.call rfl (enters Tryz.func31 rfl rfl) rfl (fun w hw => by
   exact value_any hxl _) ?_
 rintro ⟨⟨v, b⟩, hva⟩
 refine WK.p Pu.mv ?_
 refine WK.p Pu.ex ?_
 refine WK.p Pu.ex ?_
 refine WK.p Pu.as ?_
 refine WK.p Pu.as ?_
 refine WK.n ?_
 refine TL.nil (TQ.thenN (hY8 _ _ ?_))
 refine TW.seq fun Y9 hY9 => ?_
 refine TW.seq fun Y10 hY10 => TW.region ?_
 refine TL.p Pu.mv ?_
 refine TL.p Pu.no ?_
 refine TL.nil (TQ.thenN (hY10 _ _ ?_))
 refine TW.cond rfl (fun hc1 => ?_) (fun hc1 => ?_)
 try simp only [zcb9] at hc1
 have hv : valL x = none := by
  rcases hva with ⟨h1, _⟩ | ⟨_, h⟩
  have h2 : b = true := h1
  rw [h2] at hc1; simp at hc1
  exact h
 obtain ⟨rfl, rfl⟩ : ok = false ∧ ms = [] := by
  rcases hN with ⟨_, h⟩ | ⟨h1, _, h2⟩
  rw [nms_no hv hxm] at h; cases h
  exact ⟨h1, h2⟩
 refine TW.seq fun Y11 hY11 => TW.region ?_
 refine TL.p Pu.as ?_
 refine TL.p Pu.as ?_
 refine TL.nil (TQ.thenN (hY11 _ _ ?_))
 refine TW.ret ?_
 refine TQ.thenR ?_
 refine TQ.blkR ?_
 refine TQ.thenR ?_
 refine TQ.thenR ?_
 refine TQ.blkR ?_
 refine TQ.thenR ?_
 refine TQ.ret Tryz.results33 rfl ((.tmp rfl (.tmp rfl .nil))) ?_
 first
 | exact fun w hw => ⟨(none, 0), rfl, hw.sub (KSub.nilOwn KSub.nil)⟩
 | exact fun w hw => ⟨(B, c), by rw [hml]; rfl, by rw [hml]; exact hw⟩
 | trace_state
 try simp only [zcb9] at hc1
 have hv : valL x = some v := by
  rcases hva with ⟨_, h⟩ | ⟨h1, _⟩
  exact h
  have h2 : b = false := h1
  rw [h2] at hc1; simp at hc1
 have hm2 : nmsL ((ws.drop j).take (k + 1)) = some (m ++ [v]) := by rw [htk, nms_snoc, hm, hv]; rfl
 refine TW.skip ?_
 refine TQ.thenN (hY9 _ _ ?_)
 refine TW.region ?_
 refine TL.p Pu.mv ?_
 refine TL.p Pu.mv ?_
 refine TL.m Mk.bl ?_
 intro b1
 first | refine TL.a0 ty_et42 ?_ | refine TL.ap ty_et42 ?_
 intro A2 c2
 refine TL.p Pu.as ?_
 refine TL.nil ?_
 refine TQ.blkN ?_
 refine TQ.thenN (hY7 _ _ ?_)
 refine TW.region ?_
 refine TL.p Pu.mv ?_
 refine TL.p Pu.ad ?_
 refine TL.p Pu.as ?_
 refine TL.nil ?_
 refine TQ.thenN (hZ0 (k + 1) A2 c2 (m ++ [v]) _ _ ?_ ?_ fs9 ?_)
 exact ⟨by omega, hm2⟩
 exact zom9
 exact KSub.own pk9 (iL_app hml.symm rfl rfl) KSub.nil
 try simp only [zcb9] at hc0
 have hkn : j + k = n := by omega
 obtain ⟨rfl, rfl⟩ : ok = true ∧ ms = m := by
  rw [List.take_of_length_le (by rw [List.length_drop]; omega)] at hm
  rcases hN with ⟨h1, h⟩ | ⟨_, h, _⟩
  rw [hm] at h; exact ⟨h1, (Option.some.inj h).symm⟩
  rw [hm] at h; cases h
 refine TW.exit ?_
 refine TQ.thenX ?_
 refine TQ.thenX ?_
 refine TQ.blkX ?_
 refine TQ.thenN (hY3 _ _ ?_)
 refine TW.seq fun Y12 hY12 => TW.region ?_
 refine TL.p Pu.mv ?_
 refine TL.p Pu.as ?_
 refine TL.p Pu.as ?_
 refine TL.nil (TQ.thenN (hY12 _ _ ?_))
 refine TW.ret ?_
 refine TQ.ret Tryz.results33 rfl ((.tmp rfl (.tmp rfl .nil))) ?_
 first
 | exact fun w hw => ⟨(none, 0), rfl, hw.sub (KSub.nilOwn KSub.nil)⟩
 | exact fun w hw => ⟨(B, c), by rw [hml]; rfl, by rw [hml]; exact hw⟩
 | trace_state
end Go.Proofs.YtfgnbkegdjkdmaaGreatDoor
namespace Go.Proofs.YtfgnbkegdjkdmaaGreatDoor
set_option linter.all false
set_option linter.unusedVariables false
set_option linter.unusedSimpArgs false
open Go.RowKit Go.Lib
set_option maxRecDepth 100000 in
theorem rSpan_any {l : List Int} {A : Option Addr} {n cp j : Nat} {w : World} (hn : n ≤ 100000) (hj : j + 1 < n) (hR : RdR w 1 A n (iL l)) : Calls Tryz.prog 74 #[.slice A n cp, .int .i64 (j : Int)] w (Ret w (.agg #[.int .i64 (l.getD j 0), .int .i64 (l.getD (j + 1) 0)])) := by
 refine K_enter (S := []) (K := []) Tryz.func74 rfl Tryz.ntmps74 rfl (Sat.start _) ?_
 refine TW.seq fun Y1 hY1 => TW.region ?_
 refine TL.m (Mk.al ty_zr46) ?_
 intro b1
 refine TL.nil (TQ.thenN (hY1 _ _ ?_))
 refine TW.seq fun Y2 hY2 => ?_
 refine TW.dw 10 ?_
 refine RK.tk Pu.mv ?_
 refine RK.tk Pu.mv ?_
 refine RK.tk (Pu.el (q := j) ty_et42 (hk := Int.toNat_natCast _)) ?_
 refine RK.tk (Pu.ld ty_sc3) ?_
 refine RK.tk Pu.mv ?_
 refine RK.tk Pu.mv ?_
 refine RK.tk (Pu.iv (b := ((j + 1 : Nat) : Int)) Pu.ad (by omega)) ?_
 refine RK.tk (Pu.el (q := j + 1) ty_et42 (hk := Int.toNat_natCast _)) ?_
 refine RK.tk (Pu.ld ty_sc3) ?_
 refine RK.tk Pu.bd ?_
 refine RK.ch [] ?_ trivial
 refine WK.n ?_
 first | refine TL.st ty_sz46 ?_ | refine TL.se ty_sz46 ?_
 refine TL.nil (TQ.thenN (hY2 _ _ ?_))
 refine TW.ret ?_
 refine TQ.ret Tryz.results74 rfl ((RV.cs ty_ag46 .nil)) ?_
 exact fun w hw => Ret.of hw
set_option maxRecDepth 100000 in
set_option maxHeartbeats 4000000 in
theorem rRow_any {l : List Int} {A : Option Addr} {n cp : Nat} {w : World} (hn : n = 14) (hR : RdR w 1 A n (iL l)) : Calls Tryz.prog 50 #[.slice A n cp] w (Ret w (.agg #[.int .i64 (l.getD 0 0), .int .i64 (l.getD 1 0), .int .i64 (l.getD 2 0), .int .i64 (l.getD 3 0), .int .i64 (l.getD 4 0), .int .i64 (l.getD 5 0), .int .i64 (l.getD 6 0), .int .i64 (l.getD 7 0), .int .i64 (l.getD 8 0), .int .i64 (l.getD 9 0), .int .i64 (l.getD 10 0), .int .i64 (l.getD 11 0), .int .i64 (l.getD 12 0), .int .i64 (l.getD 13 0)])) := by
 subst hn
 refine K_enter (S := []) (K := []) Tryz.func50 rfl Tryz.ntmps50 rfl (Sat.start _) ?_
 refine TW.seq fun Y1 hY1 => TW.region ?_
 refine TL.m (Mk.al ty_zr48) ?_
 intro b1
 refine TL.nil (TQ.thenN (hY1 _ _ ?_))
 refine TW.seq fun Y2 hY2 => TW.region ?_
 refine TL.p Pu.mv ?_
 refine TL.cr rfl (enters Tryz.func74 rfl rfl) (fun w hw => by
  exact rSpan_any (j := 0) (by decide) (by decide) (hR.sat hw Apart.nil)) ?_
 refine TL.p Pu.mv ?_
 refine TL.cr rfl (enters Tryz.func74 rfl rfl) (fun w hw => by
  exact rSpan_any (j := 2) (by decide) (by decide) (hR.sat hw Apart.nil)) ?_
 refine TL.p Pu.mv ?_
 refine TL.cr rfl (enters Tryz.func74 rfl rfl) (fun w hw => by
  exact rSpan_any (j := 4) (by decide) (by decide) (hR.sat hw Apart.nil)) ?_
 refine TL.p Pu.mv ?_
 refine TL.cr rfl (enters Tryz.func74 rfl rfl) (fun w hw => by
  exact rSpan_any (j := 6) (by decide) (by decide) (hR.sat hw Apart.nil)) ?_
 refine TL.p Pu.mv ?_
 refine TL.cr rfl (enters Tryz.func74 rfl rfl) (fun w hw => by
  exact rSpan_any (j := 8) (by decide) (by decide) (hR.sat hw Apart.nil)) ?_
 refine TL.p Pu.mv ?_
 refine TL.cr rfl (enters Tryz.func74 rfl rfl) (fun w hw => by
  exact rSpan_any (j := 10) (by decide) (by decide) (hR.sat hw Apart.nil)) ?_
 refine TL.p Pu.mv ?_
 refine TL.cr rfl (enters Tryz.func74 rfl rfl) (fun w hw => by
  exact rSpan_any (j := 12) (by decide) (by decide) (hR.sat hw Apart.nil)) ?_
 refine TL.p Pu.bd ?_
 first | refine TL.st ty_sz48 ?_ | refine TL.se ty_sz48 ?_
 refine TL.nil (TQ.thenN (hY2 _ _ ?_))
 refine TW.ret ?_
 refine TQ.ret Tryz.results50 rfl ((RV.cs ty_ag48 .nil)) ?_
 exact fun w hw => Ret.of hw
def ltr0 : Ltr := ⟨0, 0, 0, 0, 0, 0, 0, false⟩
set_option maxRecDepth 100000 in
set_option maxHeartbeats 4000000 in
theorem rLetter_any {l : List Int} {A : Option Addr} {n cp : Nat} {w : World} (hn : n = 8) (hR : RdR w 1 A n (iL l)) : CallsK Tryz.prog 51 #[.slice A n cp] [] w { x : Ltr // lettB l = true → x = ltrW l } (fun x => .tuple #[.agg #[.int .i64 x.1.id, .int .i64 x.1.day, .int .u8 x.1.kind, .int .i64 x.1.who, .int .i64 x.1.other, .int .i64 x.1.animal, .int .i64 x.1.rials, .bool x.1.mouth], .bool (lettB l)]) (fun _ => []) := by
 subst hn
 obtain ⟨y1, hy1⟩ : ∃ b, (decide ((0 : Int) ≤ l.getD 2 0) && decide (l.getD 2 0 ≤ 255)) = b := ⟨_, rfl⟩
 obtain ⟨y2, hy2⟩ : ∃ b, (decide ((0 : Int) ≤ l.getD 7 0) && decide (l.getD 7 0 ≤ 1)) = b := ⟨_, rfl⟩
 have hlb : lettB l = (y1 && y2) := by rw [lett_in, ← hy1, ← hy2]; rfl
 refine K_enter (S := []) (K := []) Tryz.func51 rfl Tryz.ntmps51 rfl (Sat.start _) ?_
 refine TW.seq fun Y1 hY1 => TW.region ?_
 refine TL.m (Mk.al ty_zr51) ?_
 intro b1
 refine TL.p Pu.as ?_
 refine TL.nil (TQ.thenN (hY1 _ _ ?_))
 refine TW.seq fun Y2 hY2 => ?_
 refine TW.seq fun Y3 hY3 => ?_
 refine TW.join [(15, .bool (!y1 || !y2))] ?_ (fun hJ1 => ?_)
 refine TQ.thenN (hY3 _ _ ?_)
 refine TW.cond rfl (fun hc0 => ?_) (fun hc0 => ?_)
 try simp only [zcb9] at hc0
 have hlf : lettB l = false := by rw [hlb]; rcases hc0 with h | h <;> simp_all
 refine TW.seq fun Y4 hY4 => TW.region ?_
 refine TL.p Pu.bd ?_
 first | refine TL.st ty_sz51 ?_ | refine TL.se ty_sz51 ?_
 refine TL.p Pu.as ?_
 refine TL.nil (TQ.thenN (hY4 _ _ ?_))
 refine TW.ret ?_
 refine TQ.thenR ?_
 refine TQ.ret Tryz.results51 rfl ((RV.cs ty_ag51 (.tmp rfl .nil))) ?_
 exact fun w hw => ⟨⟨ltr0, fun h => by rw [hlf] at h; cases h⟩, by dsimp only [retV]; rw [hlf]; rfl, hw.sub KSub.nil⟩
 try simp only [zcb9] at hc0
 have hlt : lettB l = true := by rw [hlb]; simp_all
 refine TW.skip ?_
 refine TQ.thenN (hY2 _ _ ?_)
 refine TW.seq fun Y5 hY5 => ?_
 refine TW.dw 27 ?_
 refine RK.tk Pu.mv ?_
 refine RK.tk (Pu.el (q := 0) ty_et42 (hk := rfl)) ?_
 refine RK.tk (Pu.ld ty_sc3) ?_
 refine RK.tk Pu.mv ?_
 refine RK.tk (Pu.el (q := 1) ty_et42 (hk := rfl)) ?_
 refine RK.tk (Pu.ld ty_sc3) ?_
 refine RK.tk Pu.mv ?_
 refine RK.tk (Pu.el (q := 2) ty_et42 (hk := rfl)) ?_
 refine RK.tk (Pu.ld ty_sc3) ?_
 refine RK.tk Pu.cv ?_
 refine RK.tk Pu.mv ?_
 refine RK.tk (Pu.el (q := 3) ty_et42 (hk := rfl)) ?_
 refine RK.tk (Pu.ld ty_sc3) ?_
 refine RK.tk Pu.mv ?_
 refine RK.tk (Pu.el (q := 4) ty_et42 (hk := rfl)) ?_
 refine RK.tk (Pu.ld ty_sc3) ?_
 refine RK.tk Pu.mv ?_
 refine RK.tk (Pu.el (q := 5) ty_et42 (hk := rfl)) ?_
 refine RK.tk (Pu.ld ty_sc3) ?_
 refine RK.tk Pu.mv ?_
 refine RK.tk (Pu.el (q := 6) ty_et42 (hk := rfl)) ?_
 refine RK.tk (Pu.ld ty_sc3) ?_
 refine RK.tk Pu.mv ?_
 refine RK.tk (Pu.el (q := 7) ty_et42 (hk := rfl)) ?_
 refine RK.tk (Pu.ld ty_sc3) ?_
 refine RK.tk Pu.eq ?_
 refine RK.tk Pu.bd ?_
 refine RK.ch [] ?_ trivial
 refine WK.n ?_
 first | refine TL.st ty_sz51 ?_ | refine TL.se ty_sz51 ?_
 refine TL.p Pu.as ?_
 refine TL.nil (TQ.thenN (hY5 _ _ ?_))
 refine TW.ret ?_
 refine TQ.ret Tryz.results51 rfl ((RV.cs ty_ag51 (.tmp rfl .nil))) ?_
 exact fun w hw => ⟨⟨ltrW l, fun _ => rfl⟩, by dsimp only [retV]; rw [hlt]; rfl, hw.sub KSub.nil⟩
 refine TW.region ?_
 refine TL.p Pu.mv ?_
 refine TL.p (Pu.el (q := 2) ty_et42 (hk := rfl)) ?_
 refine TL.p (Pu.iv (a := l.getD 2 0) (b := l.getD 2 0) (Pu.ld ty_sc3) rfl) ?_
 refine TL.cr rfl (enters Tryz.func46 rfl rfl) (fun w hw => by
  have h := within_any (n := l.getD 2 0) (lo := 0) (hi := 255) w
  rw [hy1] at h
  exact h) ?_
 refine TL.p Pu.no ?_
 refine TL.p Pu.mv ?_
 refine TL.guard (t := 9) rfl (fun hg1 => ?_) (fun hg1 => ?_)
 refine TL.gs ?_
 refine TL.gs ?_
 refine TL.gs ?_
 refine TL.gs ?_
 refine TL.gs ?_
 refine TL.p Pu.kt ?_
 refine TL.nil ?_
 exact TQ.sub (by repeat (first | exact trivial | refine ⟨rfl, ?_⟩ | refine ⟨trivial, ?_⟩ | refine ⟨(by show some (Value.bool _) = some (Value.bool _); first | (simp [hg1]; done) | (refine congrArg (fun z => some (Value.bool z)) (Bool.eq_iff_iff.2 ?_); simp [hg1]; omega)), ?_⟩)) ks9 hJ1
 refine TL.gd Pu.mv ?_
 refine TL.gd (Pu.el (q := 7) ty_et42 (hk := rfl)) ?_
 refine TL.gd (Pu.iv (a := l.getD 7 0) (b := l.getD 7 0) (Pu.ld ty_sc3) rfl) ?_
 refine TL.cr rfl (enters Tryz.func46 rfl rfl) (fun w hw => by
  have h := within_any (n := l.getD 7 0) (lo := 0) (hi := 1) w
  rw [hy2] at h
  exact h) ?_
 refine TL.gd Pu.no ?_
 refine TL.p Pu.kf ?_
 refine TL.nil ?_
 exact TQ.sub (by repeat (first | exact trivial | refine ⟨rfl, ?_⟩ | refine ⟨trivial, ?_⟩ | refine ⟨(by show some (Value.bool _) = some (Value.bool _); first | (simp [hg1]; done) | (refine congrArg (fun z => some (Value.bool z)) (Bool.eq_iff_iff.2 ?_); simp [hg1]; omega)), ?_⟩)) ks9 hJ1
theorem rCount_any {b : Nat} {R L A : Option Addr} {nr cr nl cl ne c : Nat} {il : Bool} {w : World} (hb : nr + nl + ne ≤ 100000) (ho : OldB w b [.slice R nr cr, .slice L nl cl, .slice A ne c, .bool il]) :
  Calls Tryz.prog 48 #[.pointer (some ⟨b, 0, none⟩)] w (Ret w (.int .i64 ((nr + nl + ne : Nat) : Int))) := by
 refine K_enter (S := []) (K := []) Tryz.func48 rfl Tryz.ntmps48 rfl (Sat.start _) ?_
 refine TW.seq fun Y1 hY1 => TW.region ?_
 refine TL.p Pu.as ?_
 refine TL.nil (TQ.thenN (hY1 _ _ ?_))
 refine TW.seq fun Y2 hY2 => ?_
 refine TW.dw 20 ?_
 refine RK.tk Pu.mv ?_
 refine RK.tk (by first | exact Pu.nn | exact Pu.nc) ?_
 refine RK.tk (by first | exact Pu.fb ty_fa57_0 | exact Pu.fe ty_fa57_0) ?_
 refine RK.tk (by first | exact Pu.fb ty_fa25_0 | exact Pu.fe ty_fa25_0) ?_
 refine RK.tk (Pu.ldo ty_sc22) ?_
 refine RK.tk (Pu.ln Tryz.underlying22) ?_
 refine RK.tk Pu.mv ?_
 refine RK.tk (by first | exact Pu.nn | exact Pu.nc) ?_
 refine RK.tk (by first | exact Pu.fb ty_fa57_0 | exact Pu.fe ty_fa57_0) ?_
 refine RK.tk (by first | exact Pu.fb ty_fa25_1 | exact Pu.fe ty_fa25_1) ?_
 refine RK.tk (Pu.ldo ty_sc23) ?_
 refine RK.tk (Pu.ln Tryz.underlying23) ?_
 refine RK.tk Pu.ad ?_
 refine RK.tk Pu.mv ?_
 refine RK.tk (by first | exact Pu.nn | exact Pu.nc) ?_
 refine RK.tk (by first | exact Pu.fb ty_fa57_1 | exact Pu.fe ty_fa57_1) ?_
 refine RK.tk (Pu.ldo ty_sc31) ?_
 refine RK.tk (Pu.ln Tryz.underlying31) ?_
 refine RK.tk Pu.ad ?_
 refine RK.tk Pu.as ?_
 refine RK.ch [] ?_ trivial
 refine WK.n ?_
 refine TL.nil (TQ.thenN (hY2 _ _ ?_))
 refine TW.ret ?_
 refine TQ.ret Tryz.results48 rfl ((.tmp rfl .nil)) ?_
 exact fun w hw => ⟨retI (by omega), Chg.ext hw.chg⟩
end Go.Proofs.YtfgnbkegdjkdmaaGreatDoor
