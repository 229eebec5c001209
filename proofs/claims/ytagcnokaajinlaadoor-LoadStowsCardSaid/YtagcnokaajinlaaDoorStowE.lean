/-
  load: Stow: the search whole; what is done under trying; Stow.
-/
import Derived.Test.YtagcnokaajinlaaDoorStowD
namespace Go.Proofs.YtagcnokaajinlaaDoor
set_option linter.all false
set_option linter.unusedVariables false
set_option linter.unusedSimpArgs false
open Go.RowKit
section
variable {P ns : Nat} {bP bN bS bV bW bC bR bB bT : Nat} {Sd Ap Av Ac Ar : Option Addr} {np cp nc cc cv cr : Nat} {wv cans r0 r1 : Nat → Int} {b : Int}
theorem next_all (hns : ns ≤ 2 * nc ∧ 2 * nc ≤ ns) (hP : P ≤ ns + 1 ∧ ns + 1 ≤ P) : ∀ r, r ≤ np →
    NextOk P ns bP bN bS bV bW bC bR bB bT Sd Ap Av Ac Ar np cp nc cc cv cr (.func (.func 47) #[] ([.pointer (some ⟨bP, 0, none⟩), .pointer (some ⟨bN, 0, none⟩), .pointer (some ⟨bS, 0, none⟩), .pointer (some ⟨bV, 0, none⟩), .pointer (some ⟨bW, 0, none⟩), .pointer (some ⟨bC, 0, none⟩), .pointer (some ⟨bR, 0, none⟩), .pointer (some ⟨bB, 0, none⟩), .pointer (some ⟨bT, 0, none⟩)]).toArray) wv cans r0 r1 b (np - r) (dfs P (leafS P np nc r0 r1 cans wv b) r)
  | 0, _ => by
    intro w way iv sv A c T TA Tc st hiv hsv hM hX
    subst hiv hsv
    exact next_leaf hns hM hX
  | r + 1, h => by
    have h1 := next_all hns hP r (by omega)
    rw [show np - r = np - (r + 1) + 1 by omega] at h1
    exact next_step (by omega) hns hP h1
end
theorem KSub.left : ∀ (Y : List Fact) {R : List Fact}, KSub (Y ++ R) Y
  | [], _ => .nil
  | _ :: Y, _ => .cons .hd (KSub.left Y)
theorem nil_owns {P : Nat} {K L : List Fact} {v : Nat → Nat → Int} (h : KSub K L) : ∀ n, KSub K (ownsK (fun _ => none) (sln P 0 0) (fun _ => 0) v n ++ L)
  | 0 => h
  | n + 1 => KSub.nilOwn (nil_owns h n)
theorem disj_of {S : List Nat} {w0 w : World} {K M R : List Fact} (hs : Sat S w0 K w) (hp : K.Perm (M ++ R)) : ∀ φ ∈ R, ∀ b ∈ φ.foot, b ∉ feet M := fun φ hφ b hb hm => by
  have h1 := (hs.perm hp).nd
  rw [feet_append] at h1
  exact (List.nodup_append.1 h1).2.2 b hm b (List.mem_flatMap.2 ⟨φ, hφ, hb⟩) rfl
def code5 (e1 : Int) (b2 b3 b4 b5 : Bool) : Int := if e1 = 0 then (if b2 then (if b3 then (if b4 then (if b5 then 0 else 55) else 2) else 2) else 4) else e1
section
variable {e1 : Int} {b2 b3 b4 b5 : Bool}
theorem code5_1 (h1 : e1 ≠ 0) : code5 e1 b2 b3 b4 b5 = e1 := if_neg h1
theorem code5_2 (h1 : e1 = 0) (h2 : (if b2 then (0 : Int) else 4) ≠ 0) : code5 e1 b2 b3 b4 b5 = (if b2 then 0 else 4) := by cases b2 <;> simp_all [code5]
theorem code5_3 (h1 : e1 = 0) (h2 : (if b2 then (0 : Int) else 4) = 0) (h3 : (if b3 then (0 : Int) else 2) ≠ 0) : code5 e1 b2 b3 b4 b5 = (if b3 then 0 else 2) := by cases b2 <;> cases b3 <;> simp_all [code5]
theorem code5_4 (h1 : e1 = 0) (h2 : (if b2 then (0 : Int) else 4) = 0) (h3 : (if b3 then (0 : Int) else 2) = 0) (h4 : (if b4 then (0 : Int) else 2) ≠ 0) : code5 e1 b2 b3 b4 b5 = (if b4 then 0 else 2) := by cases b2 <;> cases b3 <;> cases b4 <;> simp_all [code5]
theorem code5_5 (h1 : e1 = 0) (h2 : (if b2 then (0 : Int) else 4) = 0) (h3 : (if b3 then (0 : Int) else 2) = 0) (h4 : (if b4 then (0 : Int) else 2) = 0) (h5 : (if b5 then (0 : Int) else 55) ≠ 0) : code5 e1 b2 b3 b4 b5 = (if b5 then 0 else 55) := by cases b2 <;> cases b3 <;> cases b4 <;> cases b5 <;> simp_all [code5]
theorem code5_0 (h1 : e1 = 0) (h2 : (if b2 then (0 : Int) else 4) = 0) (h3 : (if b3 then (0 : Int) else 2) = 0) (h4 : (if b4 then (0 : Int) else 2) = 0) (h5 : (if b5 then (0 : Int) else 55) = 0) : code5 e1 b2 b3 b4 b5 = 0 := by cases b2 <;> cases b3 <;> cases b4 <;> cases b5 <;> simp_all [code5]
end
def stowC (np : Nat) (pk : Nat → Nat → Int) (nc : Nat) (cans : Nat → Int) (nw : Nat) (wv : Nat → Int) (b : Int) : Int :=
  code5 (checkV np pk 0 (fun _ _ => 0) (fun _ _ _ => 0)) (decide ((np : Int) ≤ 7) && decide ((nc : Int) ≤ 2)) (inB5 0 1000000000 b) (allB nc fun k => inB5 0 1000000000 (cans k)) (decide ((nw : Int) = (np : Int)) && allB nw fun k => inB5 0 1000000000000 (wv k))
def stowB (np : Nat) (pk : Nat → Nat → Int) (nc : Nat) (cans wv : Nat → Int) (b : Int) : St := dfs (2 * nc + 1) (leafS (2 * nc + 1) np nc (fun q => rl (pk q)) (fun q => rh (pk q)) cans wv b) np 0 ⟨-1, 0, 0⟩
abbrev TX : Type := (Option Addr × Nat) × (Nat → Option Addr) × (Nat → Nat)
def tiesL (P np : Nat) (w n : Nat) (x : TX) : List Fact := .own x.1.1 n x.1.2 59 3 (tieS x.2.1 (sln P np w) x.2.2) :: ownsK x.2.1 (sln P np w) x.2.2 (svl P np w) (2 * n)
def stowL (bW bT np : Nat) (pk : Nat → Nat → Int) (nc : Nat) (cans wv : Nat → Int) (b : Int) (x : TX) : List Fact :=
  .blk bW 3 [.int .i64 (stowB np pk nc cans wv b).worth] :: .blk bT 27 [.slice x.1.1 (stowB np pk nc cans wv b).n x.1.2] :: tiesL (2 * nc + 1) np (stowB np pk nc cans wv b).way (stowB np pk nc cans wv b).n x
set_option maxRecDepth 100000 in
set_option maxHeartbeats 2000000 in
theorem stow1_any {w : World} {bP bC bB bV bW bT np cp nc cc nw cv : Nat} {Ap Ac Av : Option Addr} {pk : Nat → Nat → Int} {cans wv : Nat → Int} {b : Int}
    (hG : None0 w) (hnp : np ≤ 1000) (hnc : nc ≤ 1000) (hnw : nw ≤ 1000) (hR : RdR w 11 Ap np (fun k => packL (pk k))) (hC : RdR w 1 Ac nc (fun k => [.int .i64 (cans k)])) (hV : RdR w 1 Av nw (fun k => [.int .i64 (wv k)]))
    (aG : 0 ∉ [bW, bT]) (aR : 0 < np → Apart [bW, bT] Ap) (aC : 0 < nc → Apart [bW, bT] Ac) (aV : 0 < nw → Apart [bW, bT] Av)
    (oP : OldB w bP [.slice Ap np cp]) (oC : OldB w bC [.slice Ac nc cc]) (oB : OldB w bB [.int .i64 b]) (oV : OldB w bV [.slice Av nw cv]) (nP : bP ∉ [bW, bT]) (nC : bC ∉ [bW, bT]) (nB : bB ∉ [bW, bT]) (nV : bV ∉ [bW, bT])
    (hM : Sat [bW, bT] w [.blk bW 3 [.int .i64 0], .blk bT 27 [.slice none 0 0]] w) :
    Doing Tryd.prog 44 #[.pointer (some ⟨bP, 0, none⟩), .pointer (some ⟨bC, 0, none⟩), .pointer (some ⟨bB, 0, none⟩), .pointer (some ⟨bV, 0, none⟩), .pointer (some ⟨bW, 0, none⟩), .pointer (some ⟨bT, 0, none⟩)] [.blk bW 3 [.int .i64 0], .blk bT 27 [.slice none 0 0]] TX
      (fun x => if stowC np pk nc cans nw wv b = 0 then stowL bW bT np pk nc cans wv b x else [.blk bW 3 [.int .i64 0], .blk bT 27 [.slice none 0 0]]) (stowC np pk nc cans nw wv b) w := by
  have ap1 := apart_of nP
  have ap2 := apart_of nC
  have ap3 := apart_of nB
  have ap4 := apart_of nV
  refine K_enter (args := [.pointer (some ⟨bP, 0, none⟩), .pointer (some ⟨bC, 0, none⟩), .pointer (some ⟨bB, 0, none⟩), .pointer (some ⟨bV, 0, none⟩), .pointer (some ⟨bW, 0, none⟩), .pointer (some ⟨bT, 0, none⟩)]) (S := [bW, bT]) (K := [.blk bW 3 [.int .i64 0], .blk bT 27 [.slice none 0 0]]) Tryd.func44 rfl Tryd.ntmps44 rfl hM ?_
  refine TW.seq fun Y1 hY1 => ?_
  refine TW.region ?_
  refine TL.p (by first | exact (Pu.ld ty_sc26) | exact (Pu.ldo ty_sc26)) ?_
  refine TL.ct rfl (enters Tryd.func31 rfl rfl) (fun w hw => by
      exact check_any (a := fun _ _ => none) (l := fun _ _ => 0) (c := fun _ _ => 0) (v := fun _ _ _ => 0) (hG.sat hw aG) (by omega) (by omega) (hR.sat0 hw aR) ⟨Rd.nil, fun i hi => by omega⟩ (fun i hi => by omega) (fun i hi => by omega)) (fun hp1 => ?_) (fun hp1 => ?_)
  rotate_left
  · have hcode := code5_1 (b2 := decide ((np : Int) ≤ 7) && decide ((nc : Int) ≤ 2)) (b3 := inB5 0 1000000000 b) (b4 := allB nc fun k => inB5 0 1000000000 (cans k)) (b5 := decide ((nw : Int) = (np : Int)) && allB nw fun k => inB5 0 1000000000000 (wv k)) hp1
    refine TQ.thenP ?_
    refine TQ.pan rfl ?_
    exact fun w hw => Doing.no ((none, 0), fun _ => none, fun _ => 0) (by first | exact hp5 | exact hp4 | exact hp3 | exact hp2 | exact hp1) hcode (fun h => if_neg h) hw (by repeat (first | exact KSub.nil | refine KSub.cons (by repeat (first | exact Pick.hd | apply Pick.tl)) ?_))
  refine TL.nil ?_
  refine TQ.thenN (hY1 _ _ ?_)
  refine TW.seq fun Y2 hY2 => ?_
  refine TW.region ?_
  refine TL.p (by first | exact (Pu.ld ty_sc26) | exact (Pu.ldo ty_sc26)) ?_
  refine TL.p (Pu.ln Tryd.underlying26) ?_
  refine TL.p Pu.le ?_
  refine TL.p Pu.mv ?_
  refine TL.mid 8 [(18, .bool (decide ((np : Int) ≤ 7) && decide ((nc : Int) ≤ 2)))] ?_ (fun hM1 => ?_)
  · simp only [List.toList_toArray, List.drop_succ_cons, List.drop_zero]
    refine TL.ct rfl (enters Tryd.func32 rfl rfl) (fun w hw => by
        exact need_any _ _ _ (by decide)) (fun hp2 => ?_) (fun hp2 => ?_)
    rotate_left
    · have hcode := code5_2 (b3 := inB5 0 1000000000 b) (b4 := allB nc fun k => inB5 0 1000000000 (cans k)) (b5 := decide ((nw : Int) = (np : Int)) && allB nw fun k => inB5 0 1000000000000 (wv k)) hp1 hp2
      refine TQ.thenP ?_
      refine TQ.pan rfl ?_
      exact fun w hw => Doing.no ((none, 0), fun _ => none, fun _ => 0) (by first | exact hp5 | exact hp4 | exact hp3 | exact hp2 | exact hp1) hcode (fun h => if_neg h) hw (by repeat (first | exact KSub.nil | refine KSub.cons (by repeat (first | exact Pick.hd | apply Pick.tl)) ?_))
    refine TL.nil ?_
    refine TQ.thenN (hY2 _ _ ?_)
    refine TW.seq fun Y3 hY3 => ?_
    refine TW.region ?_
    refine TL.p (by first | exact (Pu.ld ty_sc3) | exact (Pu.ldo ty_sc3)) ?_
    refine TL.ct rfl (enters Tryd.func45 rfl rfl) (fun w hw => by
        exact bounded_any _ _) (fun hp3 => ?_) (fun hp3 => ?_)
    rotate_left
    · have hcode := code5_3 (b4 := allB nc fun k => inB5 0 1000000000 (cans k)) (b5 := decide ((nw : Int) = (np : Int)) && allB nw fun k => inB5 0 1000000000000 (wv k)) hp1 hp2 hp3
      refine TQ.thenP ?_
      refine TQ.pan rfl ?_
      exact fun w hw => Doing.no ((none, 0), fun _ => none, fun _ => 0) (by first | exact hp5 | exact hp4 | exact hp3 | exact hp2 | exact hp1) hcode (fun h => if_neg h) hw (by repeat (first | exact KSub.nil | refine KSub.cons (by repeat (first | exact Pick.hd | apply Pick.tl)) ?_))
    refine TL.nil ?_
    refine TQ.thenN (hY3 _ _ ?_)
    refine TW.seq fun Y4 hY4 => ?_
    refine TW.region ?_
    refine TL.p (by first | exact (Pu.ld ty_sc47) | exact (Pu.ldo ty_sc47)) ?_
    refine TL.cr rfl (enters Tryd.func33 rfl rfl) (fun w hw => by
        exact in_any _ _ (by omega) (hC.sat0 hw aC)) ?_
    refine TL.ct rfl (enters Tryd.func32 rfl rfl) (fun w hw => by
        exact need_any _ _ _ (by decide)) (fun hp4 => ?_) (fun hp4 => ?_)
    rotate_left
    · have hcode := code5_4 (b5 := decide ((nw : Int) = (np : Int)) && allB nw fun k => inB5 0 1000000000000 (wv k)) hp1 hp2 hp3 hp4
      refine TQ.thenP ?_
      refine TQ.pan rfl ?_
      exact fun w hw => Doing.no ((none, 0), fun _ => none, fun _ => 0) (by first | exact hp5 | exact hp4 | exact hp3 | exact hp2 | exact hp1) hcode (fun h => if_neg h) hw (by repeat (first | exact KSub.nil | refine KSub.cons (by repeat (first | exact Pick.hd | apply Pick.tl)) ?_))
    refine TL.nil ?_
    refine TQ.thenN (hY4 _ _ ?_)
    refine TW.seq fun Y5 hY5 => ?_
    refine TW.region ?_
    refine TL.p (by first | exact (Pu.ld ty_sc47) | exact (Pu.ldo ty_sc47)) ?_
    refine TL.p (Pu.ln Tryd.underlying47) ?_
    refine TL.p (by first | exact (Pu.ld ty_sc26) | exact (Pu.ldo ty_sc26)) ?_
    refine TL.p (Pu.ln Tryd.underlying26) ?_
    refine TL.p Pu.eq ?_
    refine TL.p Pu.mv ?_
    refine TL.mid 9 [(33, .bool (decide ((nw : Int) = (np : Int)) && allB nw fun k => inB5 0 1000000000000 (wv k)))] ?_ (fun hM2 => ?_)
    · simp only [List.toList_toArray, List.drop_succ_cons, List.drop_zero]
      refine TL.ct rfl (enters Tryd.func32 rfl rfl) (fun w hw => by
          exact need_any _ _ _ (by decide)) (fun hp5 => ?_) (fun hp5 => ?_)
      rotate_left
      · have hcode := code5_5 hp1 hp2 hp3 hp4 hp5
        refine TQ.thenP ?_
        refine TQ.pan rfl ?_
        exact fun w hw => Doing.no ((none, 0), fun _ => none, fun _ => 0) (by first | exact hp5 | exact hp4 | exact hp3 | exact hp2 | exact hp1) hcode (fun h => if_neg h) hw (by repeat (first | exact KSub.nil | refine KSub.cons (by repeat (first | exact Pick.hd | apply Pick.tl)) ?_))
      refine TL.nil ?_
      refine TQ.thenN (hY5 _ _ ?_)
      refine TW.seq fun Y6 hY6 => ?_
      refine TW.region ?_
      refine TL.p (by first | exact (Pu.ld ty_sc26) | exact (Pu.ldo ty_sc26)) ?_
      refine TL.call (M := []) rfl (enters Tryd.func46 rfl rfl) (List.Perm.refl _) rfl (fun w hw => by
          have hok := check_ok hp1
          exact rests_any (hG.sat hw aG) (by omega) hok.2.1 (hR.sat0 hw aR)) ?_
      rintro ⟨Ar, cr⟩
      refine TL.m (Mk.al ty_zr93) ?_
      intro b1
      first | refine TL.st ty_sz93 ?_ | refine TL.se ty_sz93 ?_
      refine TL.nil ?_
      refine TQ.thenN (hY6 _ _ ?_)
      refine TW.seq fun Y7 hY7 => ?_
      refine TW.region ?_
      refine TL.p (by first | exact (Pu.ld ty_sc47) | exact (Pu.ldo ty_sc47)) ?_
      refine TL.p (Pu.ln Tryd.underlying47) ?_
      refine TL.p Pu.ml ?_
      refine TL.ms (k := 2 * nc) ty_et95 ty_zr47 ?_ (hk := by omega)
      intro bm
      refine TL.m (Mk.al ty_zr95) ?_
      intro b2
      first | refine TL.st ty_sz95 ?_ | refine TL.se ty_sz95 ?_
      refine TL.nil ?_
      refine TQ.thenN (hY7 _ _ ?_)
      refine TW.seq fun Y8 hY8 => ?_
      refine TW.region ?_
      first | refine TL.st ty_sz3 ?_ | refine TL.se ty_sz3 ?_
      refine TL.nil ?_
      refine TQ.thenN (hY8 _ _ ?_)
      refine TW.seq fun Y9 hY9 => ?_
      refine TW.region ?_
      refine TL.m (Mk.al ty_zr96) ?_
      intro b3
      refine TL.nil ?_
      refine TQ.thenN (hY9 _ _ ?_)
      refine TW.seq fun Y10 hY10 => ?_
      refine TW.region ?_
      refine TL.p Pu.fn ?_
      first | refine TL.st ty_sz96 ?_ | refine TL.se ty_sz96 ?_
      refine TL.nil ?_
      refine TQ.thenN (hY10 _ _ ?_)
      refine TW.region ?_
      refine TL.p (by first | exact (Pu.ld ty_sc96) | exact (Pu.ldo ty_sc96)) ?_
      have hg7 := need_yes (by decide) hp2
      have hg3 := need_yes (by decide) hp3
      have hg4 := need_yes (by decide) hp4
      have hg5 := need_yes (by decide) hp5
      simp only [Bool.and_eq_true, decide_eq_true_eq] at hg7 hg5
      have enw : np = nw := by omega
      refine TL.subK (K' := .blk b2 95 [.slice (some ⟨bm, 0, none⟩) (2 * nc) (2 * nc)] :: .own (some ⟨bm, 0, none⟩) (2 * nc) (2 * nc) 47 1 (fun s => [.slice ((fun _ => none) s) (sln (2 * nc + 1) 0 0 s) ((fun _ => 0) s)]) :: .blk bW 3 [.int .i64 (-1)] :: .blk bT 27 [.slice none 0 0] :: .own none 0 0 59 3 (tieS (fun _ => none) (sln (2 * nc + 1) np 0) (fun _ => 0)) :: (ownsK (fun _ => none) (sln (2 * nc + 1) 0 0) (fun _ => 0) (svl (2 * nc + 1) 0 0) (2 * nc) ++ (.blk b3 96 [.func (.func 47) #[] ([.pointer (some ⟨bP, 0, none⟩), .pointer (some ⟨b3, 0, none⟩), .pointer (some ⟨b2, 0, none⟩), .pointer (some ⟨bV, 0, none⟩), .pointer (some ⟨bW, 0, none⟩), .pointer (some ⟨bC, 0, none⟩), .pointer (some ⟨b1, 0, none⟩), .pointer (some ⟨bB, 0, none⟩), .pointer (some ⟨bT, 0, none⟩)]).toArray] :: .blk b1 93 [.slice Ar np cr] :: .own Ar np cr 23 2 (fun q => spL (rl (pk q)) (rh (pk q))) :: []))) (by
        refine KSub.cons (by repeat (first | exact Pick.hd | apply Pick.tl)) (KSub.own (by repeat (first | exact Pick.hd | apply Pick.tl)) (fun s hs => rfl) (KSub.cons (by repeat (first | exact Pick.hd | apply Pick.tl)) (KSub.cons (by repeat (first | exact Pick.hd | apply Pick.tl)) (KSub.nilOwn (nil_owns ?_ _)))))
        repeat (first | exact KSub.nil | refine KSub.cons (by repeat (first | exact Pick.hd | apply Pick.tl)) ?_)) ?_
      refine TL.cvk rfl rfl (enters Tryd.func47 rfl rfl) (M := .blk b2 95 [.slice (some ⟨bm, 0, none⟩) (2 * nc) (2 * nc)] :: .own (some ⟨bm, 0, none⟩) (2 * nc) (2 * nc) 47 1 (fun s => [.slice ((fun _ => none) s) (sln (2 * nc + 1) 0 0 s) ((fun _ => 0) s)]) :: .blk bW 3 [.int .i64 (-1)] :: .blk bT 27 [.slice none 0 0] :: .own none 0 0 59 3 (tieS (fun _ => none) (sln (2 * nc + 1) np 0) (fun _ => 0)) :: (ownsK (fun _ => none) (sln (2 * nc + 1) 0 0) (fun _ => 0) (svl (2 * nc + 1) 0 0) (2 * nc) ++ ownsK (fun _ => none) (sln (2 * nc + 1) np 0) (fun _ => 0) (svl (2 * nc + 1) np 0) (2 * 0))) (K' := .blk b3 96 [.func (.func 47) #[] ([.pointer (some ⟨bP, 0, none⟩), .pointer (some ⟨b3, 0, none⟩), .pointer (some ⟨b2, 0, none⟩), .pointer (some ⟨bV, 0, none⟩), .pointer (some ⟨bW, 0, none⟩), .pointer (some ⟨bC, 0, none⟩), .pointer (some ⟨b1, 0, none⟩), .pointer (some ⟨bB, 0, none⟩), .pointer (some ⟨bT, 0, none⟩)]).toArray] :: .blk b1 93 [.slice Ar np cr] :: .own Ar np cr 23 2 (fun q => spL (rl (pk q)) (rh (pk q))) :: []) (List.Perm.of_eq (by simp [ownsK])) (fun w hw => by
          have hperm : (.blk b2 95 [.slice (some ⟨bm, 0, none⟩) (2 * nc) (2 * nc)] :: .own (some ⟨bm, 0, none⟩) (2 * nc) (2 * nc) 47 1 (fun s => [.slice ((fun _ => none) s) (sln (2 * nc + 1) 0 0 s) ((fun _ => 0) s)]) :: .blk bW 3 [.int .i64 (-1)] :: .blk bT 27 [.slice none 0 0] :: .own none 0 0 59 3 (tieS (fun _ => none) (sln (2 * nc + 1) np 0) (fun _ => 0)) :: (ownsK (fun _ => none) (sln (2 * nc + 1) 0 0) (fun _ => 0) (svl (2 * nc + 1) 0 0) (2 * nc) ++ (.blk b3 96 [.func (.func 47) #[] ([.pointer (some ⟨bP, 0, none⟩), .pointer (some ⟨b3, 0, none⟩), .pointer (some ⟨b2, 0, none⟩), .pointer (some ⟨bV, 0, none⟩), .pointer (some ⟨bW, 0, none⟩), .pointer (some ⟨bC, 0, none⟩), .pointer (some ⟨b1, 0, none⟩), .pointer (some ⟨bB, 0, none⟩), .pointer (some ⟨bT, 0, none⟩)]).toArray] :: .blk b1 93 [.slice Ar np cr] :: .own Ar np cr 23 2 (fun q => spL (rl (pk q)) (rh (pk q))) :: [])) : List Fact).Perm ((.blk b2 95 [.slice (some ⟨bm, 0, none⟩) (2 * nc) (2 * nc)] :: .own (some ⟨bm, 0, none⟩) (2 * nc) (2 * nc) 47 1 (fun s => [.slice ((fun _ => none) s) (sln (2 * nc + 1) 0 0 s) ((fun _ => 0) s)]) :: .blk bW 3 [.int .i64 (-1)] :: .blk bT 27 [.slice none 0 0] :: .own none 0 0 59 3 (tieS (fun _ => none) (sln (2 * nc + 1) np 0) (fun _ => 0)) :: (ownsK (fun _ => none) (sln (2 * nc + 1) 0 0) (fun _ => 0) (svl (2 * nc + 1) 0 0) (2 * nc) ++ ownsK (fun _ => none) (sln (2 * nc + 1) np 0) (fun _ => 0) (svl (2 * nc + 1) np 0) (2 * 0))) ++ (.blk b3 96 [.func (.func 47) #[] ([.pointer (some ⟨bP, 0, none⟩), .pointer (some ⟨b3, 0, none⟩), .pointer (some ⟨b2, 0, none⟩), .pointer (some ⟨bV, 0, none⟩), .pointer (some ⟨bW, 0, none⟩), .pointer (some ⟨bC, 0, none⟩), .pointer (some ⟨b1, 0, none⟩), .pointer (some ⟨bB, 0, none⟩), .pointer (some ⟨bT, 0, none⟩)]).toArray] :: .blk b1 93 [.slice Ar np cr] :: .own Ar np cr 23 2 (fun q => spL (rl (pk q)) (rh (pk q))) :: [])) := List.Perm.of_eq (by simp [ownsK])
          have hok := check_ok hp1
          have hsub : ∀ b ∈ feet (.blk b2 95 [.slice (some ⟨bm, 0, none⟩) (2 * nc) (2 * nc)] :: .own (some ⟨bm, 0, none⟩) (2 * nc) (2 * nc) 47 1 (fun s => [.slice ((fun _ => none) s) (sln (2 * nc + 1) 0 0 s) ((fun _ => 0) s)]) :: .blk bW 3 [.int .i64 (-1)] :: .blk bT 27 [.slice none 0 0] :: .own none 0 0 59 3 (tieS (fun _ => none) (sln (2 * nc + 1) np 0) (fun _ => 0)) :: (ownsK (fun _ => none) (sln (2 * nc + 1) 0 0) (fun _ => 0) (svl (2 * nc + 1) 0 0) (2 * nc) ++ ownsK (fun _ => none) (sln (2 * nc + 1) np 0) (fun _ => 0) (svl (2 * nc + 1) np 0) (2 * 0)) : List Fact), b ∈ feet (.blk b2 95 [.slice (some ⟨bm, 0, none⟩) (2 * nc) (2 * nc)] :: .own (some ⟨bm, 0, none⟩) (2 * nc) (2 * nc) 47 1 (fun s => [.slice ((fun _ => none) s) (sln (2 * nc + 1) 0 0 s) ((fun _ => 0) s)]) :: .blk bW 3 [.int .i64 (-1)] :: .blk bT 27 [.slice none 0 0] :: .own none 0 0 59 3 (tieS (fun _ => none) (sln (2 * nc + 1) np 0) (fun _ => 0)) :: (ownsK (fun _ => none) (sln (2 * nc + 1) 0 0) (fun _ => 0) (svl (2 * nc + 1) 0 0) (2 * nc) ++ (.blk b3 96 [.func (.func 47) #[] ([.pointer (some ⟨bP, 0, none⟩), .pointer (some ⟨b3, 0, none⟩), .pointer (some ⟨b2, 0, none⟩), .pointer (some ⟨bV, 0, none⟩), .pointer (some ⟨bW, 0, none⟩), .pointer (some ⟨bC, 0, none⟩), .pointer (some ⟨b1, 0, none⟩), .pointer (some ⟨bB, 0, none⟩), .pointer (some ⟨bT, 0, none⟩)]).toArray] :: .blk b1 93 [.slice Ar np cr] :: .own Ar np cr 23 2 (fun q => spL (rl (pk q)) (rh (pk q))) :: [])) : List Fact) := fun b hb => by
            have h1 : (feet (.blk b2 95 [.slice (some ⟨bm, 0, none⟩) (2 * nc) (2 * nc)] :: .own (some ⟨bm, 0, none⟩) (2 * nc) (2 * nc) 47 1 (fun s => [.slice ((fun _ => none) s) (sln (2 * nc + 1) 0 0 s) ((fun _ => 0) s)]) :: .blk bW 3 [.int .i64 (-1)] :: .blk bT 27 [.slice none 0 0] :: .own none 0 0 59 3 (tieS (fun _ => none) (sln (2 * nc + 1) np 0) (fun _ => 0)) :: (ownsK (fun _ => none) (sln (2 * nc + 1) 0 0) (fun _ => 0) (svl (2 * nc + 1) 0 0) (2 * nc) ++ (.blk b3 96 [.func (.func 47) #[] ([.pointer (some ⟨bP, 0, none⟩), .pointer (some ⟨b3, 0, none⟩), .pointer (some ⟨b2, 0, none⟩), .pointer (some ⟨bV, 0, none⟩), .pointer (some ⟨bW, 0, none⟩), .pointer (some ⟨bC, 0, none⟩), .pointer (some ⟨b1, 0, none⟩), .pointer (some ⟨bB, 0, none⟩), .pointer (some ⟨bT, 0, none⟩)]).toArray] :: .blk b1 93 [.slice Ar np cr] :: .own Ar np cr 23 2 (fun q => spL (rl (pk q)) (rh (pk q))) :: [])) : List Fact)).Perm _ := hperm.flatMap_right _
            rw [h1.mem_iff]
            show b ∈ feet _
            rw [feet_append]
            simp [hb]
          have hdj := disj_of hw hperm
          have hvl : ∀ k, k < np → 0 ≤ wv k ∧ wv k ≤ 1000000000000 := fun k hk => by
            have := allB_iff.1 hg5.2 k (by omega)
            simpa [inB5] using this
          have hV2 : RdR _ 1 Av np (fun k => [.int .i64 (wv k)]) := enw ▸ hV
          have oV2 : OldB _ bV [.slice Av np cv] := enw ▸ oV
          have aV2 : 0 < np → Apart [bW, bT] Av := fun h => aV (by omega)
          have hb3 : 0 ≤ b ∧ b ≤ 1000000000 := by simpa [inB5] using hg3
          have oN2 : OldB w b3 [(Value.func (.func 47) #[] ([.pointer (some ⟨bP, 0, none⟩), .pointer (some ⟨b3, 0, none⟩), .pointer (some ⟨b2, 0, none⟩), .pointer (some ⟨bV, 0, none⟩), .pointer (some ⟨bW, 0, none⟩), .pointer (some ⟨bC, 0, none⟩), .pointer (some ⟨b1, 0, none⟩), .pointer (some ⟨bB, 0, none⟩), .pointer (some ⟨bT, 0, none⟩)] : List Value).toArray)] := OldB.of_blk (T := 96) (cs := [(Value.func (.func 47) #[] ([.pointer (some ⟨bP, 0, none⟩), .pointer (some ⟨b3, 0, none⟩), .pointer (some ⟨b2, 0, none⟩), .pointer (some ⟨bV, 0, none⟩), .pointer (some ⟨bW, 0, none⟩), .pointer (some ⟨bC, 0, none⟩), .pointer (some ⟨b1, 0, none⟩), .pointer (some ⟨bB, 0, none⟩), .pointer (some ⟨bT, 0, none⟩)] : List Value).toArray)]) (hw.holds (.blk b3 96 [(Value.func (.func 47) #[] ([.pointer (some ⟨bP, 0, none⟩), .pointer (some ⟨b3, 0, none⟩), .pointer (some ⟨b2, 0, none⟩), .pointer (some ⟨bV, 0, none⟩), .pointer (some ⟨bW, 0, none⟩), .pointer (some ⟨bC, 0, none⟩), .pointer (some ⟨b1, 0, none⟩), .pointer (some ⟨bB, 0, none⟩), .pointer (some ⟨bT, 0, none⟩)] : List Value).toArray)]) (hperm.mem_iff.2 (by simp)))
          have hX : SCx w (feet (.blk b2 95 [.slice (some ⟨bm, 0, none⟩) (2 * nc) (2 * nc)] :: .own (some ⟨bm, 0, none⟩) (2 * nc) (2 * nc) 47 1 (fun s => [.slice ((fun _ => none) s) (sln (2 * nc + 1) 0 0 s) ((fun _ => 0) s)]) :: .blk bW 3 [.int .i64 (-1)] :: .blk bT 27 [.slice none 0 0] :: .own none 0 0 59 3 (tieS (fun _ => none) (sln (2 * nc + 1) np 0) (fun _ => 0)) :: (ownsK (fun _ => none) (sln (2 * nc + 1) 0 0) (fun _ => 0) (svl (2 * nc + 1) 0 0) (2 * nc) ++ ownsK (fun _ => none) (sln (2 * nc + 1) np 0) (fun _ => 0) (svl (2 * nc + 1) np 0) (2 * 0)))) bP b3 bV bC b1 bB Ap Av Ac Ar np cp nc cc cv cr (.func (.func 47) #[] ([.pointer (some ⟨bP, 0, none⟩), .pointer (some ⟨b3, 0, none⟩), .pointer (some ⟨b2, 0, none⟩), .pointer (some ⟨bV, 0, none⟩), .pointer (some ⟨bW, 0, none⟩), .pointer (some ⟨bC, 0, none⟩), .pointer (some ⟨b1, 0, none⟩), .pointer (some ⟨bB, 0, none⟩), .pointer (some ⟨bT, 0, none⟩)]).toArray) wv cans (fun q => rl (pk q)) (fun q => rh (pk q)) b :=
            ⟨oP.sat hw nP, oN2, oV2.sat hw nV, oC.sat hw nC, OldB.of_blk (hw.holds (.blk b1 93 [.slice Ar np cr]) (hperm.mem_iff.2 (by simp))), oB.sat hw nB,
              notin_sat hw hsub nP oP.1, hdj _ (List.mem_cons_self ..) b3 (by simp [Fact.foot]), notin_sat hw hsub nV oV.1, notin_sat hw hsub nC oC.1, hdj (.blk b1 93 [.slice Ar np cr]) (by simp) b1 (by simp [Fact.foot]), notin_sat hw hsub nB oB.1,
              hV2.sat0 hw aV2, hC.sat0 hw aC, OwnR.rdr (hw.holds (.own Ar np cr 23 2 (fun q => spL (rl (pk q)) (rh (pk q)))) (hperm.mem_iff.2 (by simp))), apart_sat hw hsub hV2 aV2, apart_sat hw hsub hC aC,
              fun _ q hq => hdj (.own Ar np cr 23 2 (fun q => spL (rl (pk q)) (rh (pk q)))) (by simp) q (by
                cases Ar with
                | none => cases hq
                | some p => simp at hq; simp [Fact.foot, hq]), RestOk.of_packs hok.2.1, by omega, by omega, hb3, hvl⟩
          have h9 := next_all (P := 2 * nc + 1) (ns := 2 * nc) (bP := bP) (bN := b3) (bS := b2) (bV := bV) (bW := bW) (bC := bC) (bR := b1) (bB := bB) (bT := bT) (Sd := some ⟨bm, 0, none⟩) (Ap := Ap) (Av := Av) (Ac := Ac) (Ar := Ar) (np := np) (cp := cp) (nc := nc) (cc := cc) (cv := cv) (cr := cr) (wv := wv) (cans := cans) (r0 := fun q => rl (pk q)) (r1 := fun q => rh (pk q)) (b := b) (by omega) (by omega) np (Nat.le_refl _)
          rw [Nat.sub_self] at h9
          exact h9 w 0 0 0 (fun _ => none) (fun _ => 0) (none, 0) (fun _ => none) (fun _ => 0) ⟨-1, 0, 0⟩ (by simp) rfl (Has.sat ⟨_, hperm⟩ hw).self hX) ?_
      rintro ⟨A', c', T', TA', Tc'⟩
      refine TL.nil ?_
      refine TQ.end Tryd.results44 rfl (.nil) ?_
      exact fun w hw => Doing.yes (T', TA', Tc') (code5_0 hp1 hp2 hp3 hp4 hp5) (fun h => if_pos h) hw (by
        unfold stowL tiesL
        simp only [List.cons_append, List.append_assoc]
        exact KSub.cons (by repeat (first | exact Pick.hd | apply Pick.tl)) (KSub.cons (by repeat (first | exact Pick.hd | apply Pick.tl)) (KSub.cons (by repeat (first | exact Pick.hd | apply Pick.tl)) (KSub.drop (KSub.drop (KSub.dropL _ (KSub.left _)))))))
    refine TL.guard (t := 30) rfl (fun hg1 => ?_) (fun hg1 => ?_)
    · refine TL.gd (by first | exact (Pu.ld ty_sc47) | exact (Pu.ldo ty_sc47)) ?_
      refine TL.cr rfl (enters Tryd.func33 rfl rfl) (fun w hw => by
          exact in_any _ _ (by omega) (hV.sat0 hw aV)) ?_
      refine TL.p Pu.kt ?_
      exact TL.sub (by repeat (first | exact trivial | refine ⟨rfl, ?_⟩ | refine ⟨trivial, ?_⟩ | refine ⟨(by show some (Value.bool _) = some (Value.bool _); simp [hg1]), ?_⟩)) (by repeat (first | exact KSub.nil | refine KSub.cons (by repeat (first | exact Pick.hd | apply Pick.tl)) ?_)) hM2
    · refine TL.gs ?_
      refine TL.gs ?_
      refine TL.p Pu.kf ?_
      exact TL.sub (by repeat (first | exact trivial | refine ⟨rfl, ?_⟩ | refine ⟨trivial, ?_⟩ | refine ⟨(by show some (Value.bool _) = some (Value.bool _); simp [hg1]), ?_⟩)) (by repeat (first | exact KSub.nil | refine KSub.cons (by repeat (first | exact Pick.hd | apply Pick.tl)) ?_)) hM2
  refine TL.guard (t := 14) rfl (fun hg2 => ?_) (fun hg2 => ?_)
  · refine TL.gd (by first | exact (Pu.ld ty_sc47) | exact (Pu.ldo ty_sc47)) ?_
    refine TL.gd (Pu.ln Tryd.underlying47) ?_
    refine TL.gd Pu.le ?_
    refine TL.p Pu.kt ?_
    exact TL.sub (by repeat (first | exact trivial | refine ⟨rfl, ?_⟩ | refine ⟨trivial, ?_⟩ | refine ⟨(by show some (Value.bool _) = some (Value.bool _); simp [hg2]), ?_⟩)) (by repeat (first | exact KSub.nil | refine KSub.cons (by repeat (first | exact Pick.hd | apply Pick.tl)) ?_)) hM1
  · refine TL.gs ?_
    refine TL.gs ?_
    refine TL.gs ?_
    refine TL.p Pu.kf ?_
    exact TL.sub (by repeat (first | exact trivial | refine ⟨rfl, ?_⟩ | refine ⟨trivial, ?_⟩ | refine ⟨(by show some (Value.bool _) = some (Value.bool _); simp [hg2]), ?_⟩)) (by repeat (first | exact KSub.nil | refine KSub.cons (by repeat (first | exact Pick.hd | apply Pick.tl)) ?_)) hM1
end Go.Proofs.YtagcnokaajinlaaDoor
