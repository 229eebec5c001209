/-
  The statement BrandBornSaid: for every input the law BrandBorn returns true, and its arguments read afterwards as before. No condition.
-/
import Derived.Test.YtbenhafhklfhmaaGreatAl01
import Derived.Test.YtbenhafhklfhmaaGreatAl02
import Derived.Test.YtbenhafhklfhmaaGreatAl03
import Derived.Test.YtbenhafhklfhmaaGreatAl04
import Derived.Test.YtbenhafhklfhmaaGreatAl05
import Derived.Test.YtbenhafhklfhmaaGreatAl06
import Derived.Test.YtbenhafhklfhmaaGreatAl07
import Derived.Test.YtbenhafhklfhmaaGreatAl08
import Derived.Test.YtbenhafhklfhmaaGreatAl09
import Derived.Test.YtbenhafhklfhmaaGreatAl10
import Derived.Test.YtbenhafhklfhmaaGreatAl11
import Derived.Test.YtbenhafhklfhmaaGreatRows
import Derived.WalkKit
import Derived.WalkSpells
import Derived.WalkLawsBesides
import Derived.Deep.QuietTactic
import Derived.BigQuiet
import Derived.OrdersHeld
import Derived.Maps.AppendAt
import Derived.OwnWalk
import Derived.Lib.SliceRun
import Derived.RangeFuncNested
import Derived.RangeFuncBound
import Derived.RangeFuncCalls
import Derived.RangeFuncLeaves
import Derived.OwnWalkIn
import Derived.TacticsInMore
import Derived.LoopNIn
import Derived.LoopIn
import Derived.OrdersIn
import Derived.Deep.LoopGhost
import Derived.MapKept
import Derived.Carry
import Derived.Lib.AppendZerosOnto
import Derived.Laws.OwnMore
import Derived.Sort.Grow
import Derived.Shelf.Small.Bits
import Derived.Shelf.Strconv.Itoa0
import Derived.Ground.SlsfProg
import Derived.Shelf.SlSortCmp.Insertion
import Derived.Ground.SlgmProg
import Derived.Shelf.SortM.Plain
import Derived.Shelf.SortM.SortNone
import Derived.Shelf.SlSortCmp.SiftDown1
import Derived.Shelf.SlSortCmp.HeapSort1
import Derived.Shelf.SlSortCmp.Insertion1
import Derived.Shelf.SlSortCmp.Median1
import Derived.Shelf.SlSortCmp.Pivot1
import Derived.Shelf.SlSortCmp.ReverseRange1
import Derived.Shelf.SlSortCmp.PartialInsertion1
import Derived.Shelf.SlSortCmp.PartitionEqual1
import Derived.Shelf.SlSortCmp.Partition1
import Derived.Shelf.SlSortCmp.Pdq1
import Derived.Shelf.SlSortCmp.Whole1
import Derived.Shelf.SlSortCmp.NoneTotal
import Derived.Test.YtbenhafhklfhmaaGreatProg
import Derived.IntWalk
import Derived.Deep.RegionHeld3
import Derived.BigRegion
import Derived.Deep.DeepMust
import Derived.ProofKit
import Derived.Deep.Slices
import Derived.ChangeKeysEq
import Derived.OpenShut
namespace Go.Proofs.YtbenhafhklfhmaaGreat
set_option linter.all false
set_option linter.unusedVariables false
set_option linter.unusedSimpArgs false
open Go.RowKit
section
variable {c : Cx} {Q : Exit → Act → World → Prop} {F F' : Fr} {K K' K0 : List Fact} {ops : Array Oper} {rest : List Oper} {d : Option Tmp} {ty : TypeId} {pos : String} {af : Array Edge} {g : Option (Nat × Bool)} {k fuel t nf : Nat} {pend : List (Nat × Oper)} {listed : Array Bool} {bs : List Bool} {fl : List Fl} {op : Op}
end
section
variable {c : Cx} {Q : Exit → Act → World → Prop} {F F' : Fr} {K K' K0 : List Fact} {ops : Array Oper} {listed : Array Bool} {fuel : Nat}
theorem TW.ex0 {id : Nat} {l : List Oper} (hd : Drop F K K0) (h2 : RG c l.toArray Q K0 [] (Array.replicate l.length false) l.length F K) (hm : c.P.follows .mixedOrders = true := by rfl) : TW c (.region id l.toArray true) Q F K := fun a w hF hK => by
  refine wp_region_any hm (wpAny_of_held (S := Sat c.S c.w0 K0) _ _ _ _ ?_)
  rw [List.size_toArray]
  exact h2 (fun p hp => by cases hp) a w.drew hF (hK.ext (keep_drew w))
theorem TW.expl {id : Nat} {l : List Oper} {X : Type} (Fj : X → Fr) (Kj : X → List Fact) (hd : Drop F K K0) (h1 : ∀ x, TQ c Q .normal (Fj x) (Kj x)) (h2 : (∀ x, TQ c Q .normal (Fj x) (Kj x)) → RG c l.toArray Q K0 [] (Array.replicate l.length false) l.length F K) (hm : c.P.follows .mixedOrders = true := by rfl) : TW c (.region id l.toArray true) Q F K := TW.ex0 hd (h2 h1) hm
end
end Go.Proofs.YtbenhafhklfhmaaGreat
namespace Go.Proofs.YtbenhafhklfhmaaGreat
set_option linter.all false
set_option linter.unusedVariables false
set_option linter.unusedSimpArgs false
open Go.RowKit
section
variable {c : Cx} {Q : Exit → Act → World → Prop} {F F' : Fr} {K K' K0 : List Fact} {ops : Array Oper} {rest : List Oper} {d : Option Tmp} {ty : TypeId} {pos : String} {af : Array Edge} {g : Option (Nat × Bool)} {t : Nat}
theorem TL.ob {b : Nat} {E : TypeId} {sz : Nat} {r : Nat → List Value} (hp : Pick K (.blk b E []) K') (hz : Nat.blt 0 sz = true) (h : TL c ops Q rest F (.own (some ⟨b, 0, none⟩) 0 0 E sz r :: K')) : TL c ops Q rest F K := fun a w hF hK => by
 have hs := hK.pick hp
 have hb : Blk w b E #[] := hs.holds (.blk b E []) (by simp)
 have ho : OwnR w (some ⟨b, 0, none⟩) 0 0 E sz r := OwnR.of_blk (cs := []) hb rfl (fun _ h => by omega) hz rfl
 refine h a w hF ⟨hs.chg, hs.nd, hs.ge, fun φ hφ => ?_⟩
 rcases List.mem_cons.1 hφ with rfl | hφ
 · exact ho
 · exact hs.holds φ (by simp [hφ])
end
end Go.Proofs.YtbenhafhklfhmaaGreat
namespace Go.Proofs.YtbenhafhklfhmaaGreat
set_option linter.all false
set_option linter.unusedVariables false
set_option linter.unusedSimpArgs false
structure Tru (H : Hd) (d : Nat → Int) : Prop where
 own : ∀ i, i < H.n → H.lo i ≤ d i ∧ d i ≤ H.hi i
 mo : ∀ i, i < H.n → 0 ≤ moH H i → d (moH H i).toNat + 1400 ≤ d i ∧ d i ≤ d (moH H i).toNat + 10000
section
variable {H : Hd} {d : Nat → Int} {S S' : BSt} {L : Nat → Lk} {nl nc : Nat} {dm yg : Nat → Int}
theorem Tru.con (h : Tru H d) : Con (moH H) H.n (fun i => (d i, d i)) := fun i hi h0 => by
 have := h.mo i hi h0
 dsimp only
 omega
theorem Tru.inb (hk : HOk H) (h : Tru H d) (hS : ∀ i, i < H.n → (S i).1 ≤ d i ∧ d i ≤ (S i).2) : ∀ i, i < H.n → (bth (moH H) H.n S i).1 ≤ d i ∧ d i ≤ (bth (moH H) H.n S i).2 := fun i hi =>
 (bth_w (S := S) moH_Mo hk.ac).top _ h.con hS i hi
theorem Tru.ok (hk : HOk H) (h : Tru H d) (hS : ∀ i, i < H.n → (S i).1 ≤ d i ∧ d i ≤ (S i).2) : bthOk (moH H) H.n S = true := bthOk_iff.2 fun i hi => by
 have := h.inb hk hS i hi
 omega
theorem bth_mono (hk : HOk H) (h : SubS H.n S' S) : SubS H.n (bth (moH H) H.n S') (bth (moH H) H.n S) :=
 (bth_w (S := S) moH_Mo hk.ac).top _ (bth_w (S := S') moH_Mo hk.ac).con ((bth_w (S := S') moH_Mo hk.ac).sub.trans h)
end
end Go.Proofs.YtbenhafhklfhmaaGreat
namespace Go.Proofs.YtbenhafhklfhmaaGreat
set_option linter.all false
set_option linter.unusedVariables false
set_option linter.unusedSimpArgs false
theorem Pu.iv {c : Cx} {F : Fr} {K : List Fact} {o : Oper} {a b : Int} {k : IntKind} (h : Pu c F K o (.int k a)) (e : a = b) : Pu c F K o (.int k b) := e ▸ h
end Go.Proofs.YtbenhafhklfhmaaGreat
namespace Go.Proofs.YtbenhafhklfhmaaGreat
set_option linter.all false
set_option linter.unusedVariables false
set_option linter.unusedSimpArgs false
section
variable {H : Hd}
def setH (H : Hd) (i : Nat) (lo hi : Int) : Hd := { H with lo := fun j => if j = i then lo else H.lo j, hi := fun j => if j = i then hi else H.hi j }
theorem setH_ok (hk : HOk H) {i : Nat} {lo hi : Int} (h1 : -100000 ≤ lo) (h2 : lo ≤ hi) (h3 : hi ≤ 100000) : HOk (setH H i lo hi) :=
 ⟨hk.n16, hk.id, hk.at_, fun j hj => by
  have := hk.bd j hj
  show -100000 ≤ (if j = i then lo else H.lo j) ∧ (if j = i then lo else H.lo j) ≤ (if j = i then hi else H.hi j) ∧ (if j = i then hi else H.hi j) ≤ 100000
  by_cases e : j = i
  · rw [if_pos e, if_pos e]; exact ⟨h1, h2, h3⟩
  · rw [if_neg e, if_neg e]; exact this, hk.mks, hk.mo, hk.ac⟩
theorem low_tru (hk : HOk H) (hb : bthOk (moH H) H.n (bornH H) = true) : Tru H (fun j => (bth (moH H) H.n (bornH H) j).1) := by
 have hw := bth_w (S := bornH H) moH_Mo hk.ac
 have hb := bthOk_iff.1 hb
 refine ⟨fun j hj => ?_, fun j hj h0 => ?_⟩
 · have h1 := hw.sub j hj
   have h2 := hb j hj
   unfold bornH at h1 h2 ⊢
   dsimp only at h1 h2 ⊢
   omega
 · have h1 := hw.con j hj h0
   (try dsimp only)
   omega
theorem high_tru (hk : HOk H) (hb : bthOk (moH H) H.n (bornH H) = true) : Tru H (fun j => (bth (moH H) H.n (bornH H) j).2) := by
 have hw := bth_w (S := bornH H) moH_Mo hk.ac
 have hb := bthOk_iff.1 hb
 refine ⟨fun j hj => ?_, fun j hj h0 => ?_⟩
 · have h1 := hw.sub j hj
   have h2 := hb j hj
   unfold bornH at h1 h2 ⊢
   dsimp only at h1 h2 ⊢
   omega
 · have h1 := hw.con j hj h0
   (try dsimp only)
   omega
theorem Tru.then_ (hk : HOk H) {d : Nat → Int} (h : Tru H d) {i : Nat} (hi : i < H.n) : bthOk (moH H) H.n (bornH (setH H i (d i) (d i))) = true := by
 refine h.ok hk fun j hj => ?_
 show (if j = i then d i else H.lo j) ≤ d j ∧ d j ≤ (if j = i then d i else H.hi j)
 by_cases e : j = i
 · subst e; rw [if_pos rfl, if_pos rfl]; omega
 · rw [if_neg e, if_neg e]; exact h.own j hj
theorem beyond (hk : HOk H) {i : Nat} (hi : i < H.n) {lo hi' : Int} (h1 : H.lo i ≤ lo) (h2 : hi' ≤ H.hi i) (hb : bthOk (moH H) H.n (bornH (setH H i lo hi')) = true) : (bth (moH H) H.n (bornH H) i).1 ≤ hi' ∧ lo ≤ (bth (moH H) H.n (bornH H) i).2 := by
 have hs : SubS H.n (bornH (setH H i lo hi')) (bornH H) := fun j hj => by
  show H.lo j ≤ (if j = i then lo else H.lo j) ∧ (if j = i then hi' else H.hi j) ≤ H.hi j
  by_cases e : j = i
  · subst e; rw [if_pos rfl, if_pos rfl]; exact ⟨h1, h2⟩
  · rw [if_neg e, if_neg e]; exact ⟨Int.le_refl _, Int.le_refl _⟩
 have h3 := bth_mono hk hs i hi
 have h4 := (bth_w (S := bornH (setH H i lo hi')) moH_Mo hk.ac).sub i hi
 have h5 := bthOk_iff.1 hb i hi
 have e1 : (bornH (setH H i lo hi') i).1 = lo := if_pos rfl
 have e2 : (bornH (setH H i lo hi') i).2 = hi' := if_pos rfl
 omega
end
section
variable {H : Hd} {L L' : Nat → Lk} {nl nc : Nat} {dm yg : Nat → Int}
end
section
variable {N : Nat → List Int}
end
end Go.Proofs.YtbenhafhklfhmaaGreat
namespace Go.Proofs.YtbenhafhklfhmaaGreat
set_option linter.all false
set_option linter.unusedVariables false
set_option linter.unusedSimpArgs false
open Go.RowKit
section
variable {w : World} {A : Option Addr} {cp : Nat} {H : Hd} {a : Nat → Option Addr} {c : Nat → Nat}
theorem rdy_in {H : Hd} (h : rdyH H = true) : HOk H ∧ H.n ≤ 1000 ∧ ∀ i, i < H.n → H.ml i ≤ 1000 := by
 unfold rdyH at h
 rw [Bool.and_eq_true, Bool.not_eq_true'] at h
 obtain ⟨h20, h12⟩ := great_in h.1
 exact ⟨herdB_ok.1 h.2, by omega, fun i hi => by have := h12 i hi; omega⟩
end
end Go.Proofs.YtbenhafhklfhmaaGreat
namespace Go.Proofs.YtbenhafhklfhmaaGreat
set_option linter.all false
set_option linter.unusedVariables false
set_option linter.unusedSimpArgs false
open Go.RowKit
structure BornS (H : Hd) (i : Nat) (B : BSt) (e : Int) (nb : Nat) : Prop where
 no : e ≠ 0 → e = 21 ∧ nb = 0
 nb : e = 0 → nb = H.n
 bd : e = 0 → H.lo i ≤ (B i).1 ∧ (B i).1 ≤ (B i).2 ∧ (B i).2 ≤ H.hi i
 lo : e = 0 → livC (setH H i (B i).1 (B i).1) = 0
 hi : e = 0 → livC (setH H i (B i).2 (B i).2) = 0
 blo : e = 0 → (B i).1 ≠ H.lo i → livC (setH H i (H.lo i) ((B i).1 - 1)) ≠ 0
 bhi : e = 0 → (B i).2 ≠ H.hi i → livC (setH H i ((B i).2 + 1) (H.hi i)) ≠ 0
section
variable {w : World} {A : Option Addr} {cp : Nat} {H : Hd} {a : Nat → Option Addr} {c : Nat → Nat} {i : Nat}
theorem liv_set (hk : HOk H) {lo hi : Int} (h1 : -100000 ≤ lo) (h2 : lo ≤ hi) (h3 : hi ≤ 100000) : livC (setH H i lo hi) = 0 ↔ bthOk (moH H) H.n (bornH (setH H i lo hi)) = true := by
 have h4 := herdB_ok.2 (setH_ok (i := i) hk h1 h2 h3)
 unfold livC
 rw [h4, if_pos rfl]
 show (if bthOk (moH H) H.n (bornH (setH H i lo hi)) = true then (0 : Int) else 21) = 0 ↔ _
 split
 · rename_i h; exact ⟨fun _ => h, fun _ => rfl⟩
 · rename_i h; exact ⟨fun h9 => (by cases h9), fun h9 => absurd h9 h⟩
theorem born_say (hk : HOk H) (hi : i < H.n) : ∃ (B : BSt) (e : Int) (nb : Nat), BornS H i B e nb ∧ livC H = e ∧ livB H = B ∧ (if livC H = 0 then H.n else 0) = nb := by
 have hbd := hk.bd i hi
 have hl : livC H = if bthOk (moH H) H.n (bornH H) then 0 else 21 := by
   unfold livC
   rw [herdB_ok.2 hk, if_pos rfl]
 by_cases hb : bthOk (moH H) H.n (bornH H) = true
 · rw [if_pos hb] at hl
   have h1 := (low_tru hk hb).then_ hk hi
   have h2 := (high_tru hk hb).then_ hk hi
   have h3 := (low_tru hk hb).own i hi
   have h4 := (high_tru hk hb).own i hi
   have h5 := bthOk_iff.1 hb i hi
   try dsimp only at h1 h2 h3 h4
   refine ⟨livB H, 0, H.n, ⟨fun h => absurd rfl h, fun _ => rfl, fun _ => ⟨h3.1, h5, h4.2⟩, fun _ => ?_, fun _ => ?_, fun _ hne => ?_, fun _ hne => ?_⟩, hl, rfl, by rw [if_pos hl]⟩
   · exact (liv_set hk (by unfold livB; omega) (Int.le_refl _) (by unfold livB; omega)).2 h1
   · exact (liv_set hk (by unfold livB; omega) (Int.le_refl _) (by unfold livB; omega)).2 h2
   · intro h9
     unfold livB at hne h9
     have h8 := (liv_set hk (by omega) (by omega) (by omega)).1 h9
     have := beyond hk hi (Int.le_refl _) (by omega) h8
     omega
   · intro h9
     unfold livB at hne h9
     have h8 := (liv_set hk (by omega) (by omega) (by omega)).1 h9
     have := beyond hk hi (by omega) (Int.le_refl _) h8
     omega
 · rw [if_neg hb] at hl
   refine ⟨livB H, 21, 0, ⟨fun _ => ⟨rfl, rfl⟩, fun h => (by cases h), fun h => (by cases h), fun h => (by cases h), fun h => (by cases h), fun h => (by cases h), fun h => (by cases h)⟩, hl, rfl, by rw [hl]; rfl⟩
theorem lw_births {B : BSt} {e : Int} {nb : Nat} (h1 : livC H = e) (h2 : livB H = B) (h3 : (if livC H = 0 then H.n else 0) = nb) (h : HIn w A H a c) : CallsK Tryz.prog 15 #[.slice A H.n cp] [] w (Option Addr × Nat) (fun x => .tuple #[.slice x.1 nb x.2, .int .i64 e]) (fun x => [.own x.1 nb x.2 36 2 (fun j => spL (B j).1 (B j).2)]) := by
 have h9 := bBirths_any (cp := cp) h
 rw [h3, h1, h2] at h9
 exact h9
theorem lw_code {A9 : Option Addr} {c9 : Nat} (h : HIn w A9 H a c) : CallsK Tryz.prog 15 #[.slice A9 H.n c9] [] w (Option Addr × Nat) (fun x => .tuple #[.slice x.1 (if livC H = 0 then H.n else 0) x.2, .int .i64 (livC H)]) (fun x => []) :=
 (bBirths_any (cp := c9) h).to (fun _ => rfl) (fun _ => KSub.nil)
set_option maxRecDepth 100000 in
theorem put_an {lo hi : Int} (j : Nat) : updR (fun j => anL H a c j) i [.int .i64 (H.id i), .int .i64 (H.mo i), .int .i64 lo, .int .i64 hi, .slice (a i) (H.ml i) (c i)] j = anL (setH H i lo hi) a c j := by
 unfold updR anL setH
 dsimp only
 by_cases e : j = i
 · subst e; rw [if_pos rfl, if_pos rfl, if_pos rfl]
 · rw [if_neg e, if_neg e, if_neg e]
set_option maxRecDepth 100000 in
set_option maxHeartbeats 4000000 in
theorem then_any {bh bi : Nat} {lo hi : Int} (hI : HIn w A H a c) (hi9 : i < H.n) (ob : OldB w bh [.slice A H.n cp]) (oi : OldB w bi [.int .i64 (i : Int)]) :
  Calls Tryz.prog 26 #[.agg #[.int .i64 lo, .int .i64 hi], .pointer (some ⟨bh, 0, none⟩), .pointer (some ⟨bi, 0, none⟩)] w (Ret w (.bool (decide (livC (setH H i lo hi) = 0)))) := by
 have hR := hI.hR
 have hn1 := hI.hn
 unfold anL at hR
 refine K_enter (S := []) (K := []) Tryz.func26 rfl Tryz.ntmps26 rfl (Sat.start _) ?_
 refine TW.seq fun Y1 hY1 => TW.region ?_
 refine TL.m Mk.bx ?_
 intro b1
 refine TL.p Pu.as ?_
 refine TL.nil (TQ.thenN (hY1 _ _ ?_))
 refine TW.seq fun Y2 hY2 => TW.region ?_
 refine TL.m Mk.bl ?_
 intro b2
 refine TL.p (by first | exact (Pu.ld ty_sc22) | exact (Pu.ldo ty_sc22)) ?_
 refine TL.ob (E := 46) (sz := 5) (r := fun _ => []) pk9 rfl ?_
 first | refine TL.a0 ty_et22 ?_ | refine TL.ap ty_et22 ?_
 intro A3 c3
 refine TL.p Pu.as ?_
 refine TL.nil (TQ.thenN (hY2 _ _ ?_))
 refine TW.seq fun Y3 hY3 => TW.region ?_
 refine TL.p Pu.mv ?_
 refine TL.p (by first | exact (Pu.ld ty_sc3) | exact (Pu.ldo ty_sc3)) ?_
 refine TL.p (by first | exact (Pu.lds ty_ag36) | exact (Pu.ldso ty_ag36)) ?_
 refine TL.p (Pu.el ty_et22) ?_
 refine TL.p (by first | exact Pu.fb ty_fa46_2 | exact Pu.fe ty_fa46_2) ?_
 first | refine TL.st ty_sz36 ?_ | refine TL.se ty_sz36 ?_
 refine TL.nil (TQ.thenN (hY3 _ _ ?_))
 refine TW.seq fun Y4 hY4 => TW.region ?_
 refine TL.p Pu.mv ?_
 refine TL.subK (KSub.own Pick.hd (s := fun j => anL (setH H i lo hi) a c j) (fun j hj => put_an (H := H) j) ks9) ?_
 refine TL.call (M := []) rfl (enters Tryz.func15 rfl rfl) (List.Perm.refl _) rfl (fun w hw => by
   exact lw_code (H := setH H i lo hi) ⟨hn1, OwnR.rdr (hw.holds _ (List.mem_cons_self ..)), fun j hj => (hI.hM j hj).sat hw Apart.nil, hI.hl⟩) ?_
 rintro ⟨P, pc⟩
 refine TL.p Pu.mv ?_
 refine TL.p Pu.ex ?_
 refine TL.p Pu.ex ?_
 refine TL.p Pu.as ?_
 refine TL.p Pu.as ?_
 refine TL.nil (TQ.thenN (hY4 _ _ ?_))
 refine TW.seq fun Y5 hY5 => TW.region ?_
 refine TL.p Pu.mv ?_
 refine TL.p Pu.eq ?_
 refine TL.p Pu.as ?_
 refine TL.nil (TQ.thenN (hY5 _ _ ?_))
 refine TW.ret ?_
 refine TQ.ret Tryz.results26 rfl ((.tmp rfl .nil)) ?_
 exact fun w hw => Ret.of hw
set_option maxRecDepth 100000 in
set_option maxHeartbeats 8000000 in
theorem lawBorn_any (hR : RdR w 5 A H.n (fun i => anL H a c i)) (hM : ∀ i, i < H.n → RdR w 2 (a i) (H.ml i) (fun k => spL (H.sp i k) (H.sg i k))) (o : Nat) (ho : o ≤ 255) :
  Calls Tryz.prog 6 #[.slice A H.n cp, .int .u8 (o : Int)] w (Ret w (.bool true)) := by
 have fT := fun (w' : World) (b1 b2 i : Nat) (lo hi : Int) (h : HIn w' A H a c) (hi9 : i < H.n) (h1 : Blk w' b1 22 #[.slice A H.n cp]) (h2 : Blk w' b2 3 #[.int .i64 (i : Int)]) => then_any (lo := lo) (hi := hi) h hi9 (OldB.of_blk (cs := [.slice A H.n cp]) h1) (OldB.of_blk (cs := [.int .i64 (i : Int)]) h2)
 refine K_enter (S := []) (K := []) Tryz.func6 rfl Tryz.ntmps6 rfl (Sat.start _) ?_
 refine TW.seq fun Y1 hY1 => TW.region ?_
 refine TL.m Mk.bx ?_
 intro b1
 refine TL.p Pu.as ?_
 refine TL.nil (TQ.thenN (hY1 _ _ ?_))
 refine TW.seq fun Y2 hY2 => TW.region ?_
 refine TL.cr rfl (enters Tryz.func12 rfl rfl) (fun w hw => by
   exact alive_any _) ?_
 refine TL.p Pu.as ?_
 refine TL.nil (TQ.thenN (hY2 _ _ ?_))
 refine TW.seq fun Y3 hY3 => ?_
 refine TW.seq fun Y4 hY4 => ?_
 refine TW.join [(24, .bool (!rdyH H || decide ((H.n : Int) = 0)))] ?_ (fun hJ1 => ?_)
 refine TQ.thenN (hY4 _ _ ?_)
 refine TW.cond rfl (fun hc0 => ?_) (fun hc0 => ?_)
 try simp only [zcb9] at hc0
 refine TW.seq fun Y5 hY5 => TW.region ?_
 refine TL.p Pu.mv ?_
 refine TL.p Pu.as ?_
 refine TL.nil (TQ.thenN (hY5 _ _ ?_))
 refine TW.ret ?_
 refine TQ.thenR ?_
 refine TQ.ret Tryz.results6 rfl ((.tmp rfl .nil)) ?_
 exact fun w hw => Ret.of hw
 try simp only [zcb9] at hc0
 obtain ⟨hr0, hn0⟩ := hc0
 have hr1 : rdyH H = true := by simpa using hr0
 obtain ⟨hk, hI0⟩ := rdy_in hr1
 have hI : HIn w A H a c := ⟨hI0.1, hR, hM, hI0.2⟩
 have hnn : 0 < H.n := by omega
 have h16 := hk.n16
 obtain ⟨i, ei, hi⟩ : ∃ i : Nat, HidT ((o : Int) % (H.n : Int) = (i : Int)) ∧ i < H.n := ⟨o % H.n, hidT (Int.natCast_emod o H.n).symm, Nat.mod_lt _ hnn⟩
 have hbd := hk.bd i hi
 obtain ⟨B, e, nb, hS, k1, k2, k3⟩ := born_say hk hi
 replace k1 := hidT k1
 replace k2 := hidT k2
 replace k3 := hidT k3
 replace hS := hidT hS
 refine TW.skip ?_
 refine TQ.thenN (hY3 _ _ ?_)
 refine TW.seq fun Y6 hY6 => TW.region ?_
 refine TL.p (Pu.ld ty_sc22) ?_
 refine TL.call (M := []) rfl (enters Tryz.func15 rfl rfl) (List.Perm.refl _) rfl (fun w hw => by
   exact lw_births k1.out k2.out k3.out (hI.sat hw)) ?_
 rintro ⟨P, pc⟩
 refine TL.p Pu.mv ?_
 refine TL.p Pu.ex ?_
 refine TL.p Pu.ex ?_
 refine TL.p Pu.as ?_
 refine TL.p Pu.as ?_
 refine TL.nil (TQ.thenN (hY6 _ _ ?_))
 refine TW.seq fun Y7 hY7 => ?_
 refine TW.seq fun Y8 hY8 => TW.region ?_
 refine TL.p Pu.mv ?_
 refine TL.p Pu.ne ?_
 refine TL.nil (TQ.thenN (hY8 _ _ ?_))
 refine TW.cond rfl (fun hc1 => ?_) (fun hc1 => ?_)
 try simp only [zcb9] at hc1
 have hne : e ≠ 0 := by simpa using hc1
 obtain ⟨he21, hnb0⟩ := hS.out.no hne
 refine TW.seq fun Y9 hY9 => TW.region ?_
 refine TL.p Pu.mv ?_
 refine TL.p Pu.mv ?_
 refine TL.lit (t := 34) (b' := true) rfl (rfl) ?_
 refine TL.gd Pu.mv ?_
 refine TL.gd Pu.eq ?_
 refine TL.lit (t := 36) (b' := true) rfl ((decide_eq_true he21)) ?_
 refine TL.p Pu.kt ?_
 refine TL.p Pu.mv ?_
 refine TL.gd Pu.mv ?_
 refine TL.gd (Pu.ln Tryz.underlying31) ?_
 refine TL.gd Pu.eq ?_
 refine TL.lit (t := 41) (b' := true) rfl ((decide_eq_true (by omega))) ?_
 refine TL.p Pu.kt ?_
 refine TL.p Pu.as ?_
 refine TL.nil (TQ.thenN (hY9 _ _ ?_))
 refine TW.ret ?_
 refine TQ.thenR ?_
 refine TQ.ret Tryz.results6 rfl ((.tmp rfl .nil)) ?_
 exact fun w hw => Ret.of hw
 try simp only [zcb9] at hc1
 have hee : e = 0 := by simpa using hc1
 have hnb := hS.out.nb hee
 have hs9 := hS.out.bd hee
 have hlo := hidT (hS.out.lo hee)
 have hhi := hidT (hS.out.hi hee)
 have hblo := hS.out.blo hee
 have hbhi := hS.out.bhi hee
 subst hnb
 refine TW.skip ?_
 refine TQ.thenN (hY7 _ _ ?_)
 refine TW.seq fun Y10 hY10 => ?_
 refine TW.seq fun Y11 hY11 => TW.region ?_
 refine TL.p Pu.mv ?_
 refine TL.p (Pu.ln Tryz.underlying31) ?_
 refine TL.p (Pu.ld ty_sc22) ?_
 refine TL.p (Pu.ln Tryz.underlying22) ?_
 refine TL.p Pu.ne ?_
 refine TL.nil (TQ.thenN (hY11 _ _ ?_))
 refine TW.condF rfl ((by simp)) ?_
 refine TW.skip ?_
 refine TQ.thenN (hY10 _ _ ?_)
 refine TW.seq fun Y12 hY12 => TW.region ?_
 refine TL.p Pu.mv ?_
 refine TL.p (Pu.cv (v := .int .i64 (o : Int)) rfl (fun w => by go_simp; rw [IntWalk.i64_in (o : Int) (by omega)])) ?_
 refine TL.p (Pu.ld ty_sc22) ?_
 refine TL.p (Pu.ln Tryz.underlying22) ?_
 refine TL.p (Pu.iv Pu.rm ei.out) ?_
 refine TL.m (Mk.al ty_zr3) ?_
 intro b2
 first | refine TL.st ty_sz3 ?_ | refine TL.se ty_sz3 ?_
 refine TL.nil (TQ.thenN (hY12 _ _ ?_))
 refine TW.seq fun Y13 hY13 => TW.region ?_
 refine TL.p Pu.fn ?_
 refine TL.p Pu.as ?_
 refine TL.nil (TQ.thenN (hY13 _ _ ?_))
 refine TW.seq fun Y14 hY14 => ?_
 refine TW.expl (fun (⟨x9, x10⟩ : Nat × Nat) => ([(10, .pointer (some ⟨x9, 0, none⟩)), (11, .pointer (some ⟨x10, 0, none⟩)), (5, .bool true), (9, .func (.func 26) #[] #[.pointer (some ⟨b1, 0, none⟩), .pointer (some ⟨b2, 0, none⟩)])] : Fr)) (fun (⟨x9, x10⟩ : Nat × Nat) => [.blk x9 36 [.int .i64 (B i).1, .int .i64 (B i).2], .blk x10 36 [.int .i64 (H.lo i), .int .i64 (H.hi i)], .blk b1 22 [.slice A H.n cp], .blk b2 3 [.int .i64 (i : Int)]]) Drop.done ?_ (fun hE => ?_)
 rintro ⟨x9, x10⟩
 refine TQ.thenN (hY14 _ _ ?_)
 refine TW.seq fun Y15 hY15 => ?_
 refine TW.seq fun Y16 hY16 => TW.region ?_
 refine TL.p (by first | exact Pu.fb ty_fa36_0 | exact Pu.fe ty_fa36_0) ?_
 refine TL.p (Pu.ld ty_sc3) ?_
 refine TL.p (by first | exact Pu.fb ty_fa36_0 | exact Pu.fe ty_fa36_0) ?_
 refine TL.p (Pu.ld ty_sc3) ?_
 refine TL.p Pu.lt ?_
 refine TL.lit (t := 67) (b' := false) rfl ((decide_eq_false (by omega))) ?_
 refine TL.p Pu.mv ?_
 refine TL.gd (by first | exact Pu.fb ty_fa36_1 | exact Pu.fe ty_fa36_1) ?_
 refine TL.gd (Pu.ld ty_sc3) ?_
 refine TL.gd (by first | exact Pu.fb ty_fa36_1 | exact Pu.fe ty_fa36_1) ?_
 refine TL.gd (Pu.ld ty_sc3) ?_
 refine TL.gd Pu.gt ?_
 refine TL.lit (t := 73) (b' := false) rfl ((decide_eq_false (by omega))) ?_
 refine TL.p Pu.kf ?_
 refine TL.p Pu.mv ?_
 refine TL.gd (by first | exact Pu.fb ty_fa36_0 | exact Pu.fe ty_fa36_0) ?_
 refine TL.gd (Pu.ld ty_sc3) ?_
 refine TL.gd (by first | exact Pu.fb ty_fa36_1 | exact Pu.fe ty_fa36_1) ?_
 refine TL.gd (Pu.ld ty_sc3) ?_
 refine TL.gd Pu.gt ?_
 refine TL.lit (t := 80) (b' := false) rfl ((decide_eq_false (by omega))) ?_
 refine TL.p Pu.kf ?_
 refine TL.p Pu.mv ?_
 refine TL.gd Pu.mv ?_
 refine TL.gd (by first | exact Pu.fb ty_fa36_0 | exact Pu.fe ty_fa36_0) ?_
 refine TL.gd (Pu.ld ty_sc3) ?_
 refine TL.gd (by first | exact Pu.fb ty_fa36_0 | exact Pu.fe ty_fa36_0) ?_
 refine TL.gd (Pu.ld ty_sc3) ?_
 refine TL.cr rfl (enters Tryz.func18 rfl rfl) (fun w hw => by
   exact span2_any _ _ _) ?_
 refine TL.cv rfl rfl (enters Tryz.func26 rfl rfl) (fun w hw => by
   exact fT _ b1 b2 i _ _ (hI.sat hw) hi (hw.holds (.blk b1 22 [.slice A H.n cp]) (Pick.mem pk9)) (hw.holds (.blk b2 3 [.int .i64 (i : Int)]) (Pick.mem pk9))) ?_
 refine TL.lit (t := 89) (b' := true) rfl ((decide_eq_true hlo.out)) ?_
 refine TL.gd Pu.no ?_
 refine TL.p Pu.kf ?_
 refine TL.p Pu.mv ?_
 refine TL.gd Pu.mv ?_
 refine TL.gd (by first | exact Pu.fb ty_fa36_1 | exact Pu.fe ty_fa36_1) ?_
 refine TL.gd (Pu.ld ty_sc3) ?_
 refine TL.gd (by first | exact Pu.fb ty_fa36_1 | exact Pu.fe ty_fa36_1) ?_
 refine TL.gd (Pu.ld ty_sc3) ?_
 refine TL.cr rfl (enters Tryz.func18 rfl rfl) (fun w hw => by
   exact span2_any _ _ _) ?_
 refine TL.cv rfl rfl (enters Tryz.func26 rfl rfl) (fun w hw => by
   exact fT _ b1 b2 i _ _ (hI.sat hw) hi (hw.holds (.blk b1 22 [.slice A H.n cp]) (Pick.mem pk9)) (hw.holds (.blk b2 3 [.int .i64 (i : Int)]) (Pick.mem pk9))) ?_
 refine TL.lit (t := 99) (b' := true) rfl ((decide_eq_true hhi.out)) ?_
 refine TL.gd Pu.no ?_
 refine TL.p Pu.kf ?_
 refine TL.nil (TQ.thenN (hY16 _ _ ?_))
 refine TW.condF rfl rfl ?_
 refine TW.skip ?_
 refine TQ.thenN (hY15 _ _ ?_)
 refine TW.seq fun Y17 hY17 => TW.region ?_
 refine TL.p Pu.mv ?_
 refine TL.p Pu.mv ?_
 refine TL.lit (t := 103) (b' := true) rfl (rfl) ?_
 refine TL.gd (by first | exact Pu.fb ty_fa36_0 | exact Pu.fe ty_fa36_0) ?_
 refine TL.gd (Pu.ld ty_sc3) ?_
 refine TL.gd (by first | exact Pu.fb ty_fa36_0 | exact Pu.fe ty_fa36_0) ?_
 refine TL.gd (Pu.ld ty_sc3) ?_
 refine TL.gd Pu.eq ?_
 refine TL.gd Pu.mv ?_
 refine TL.guard (t := 109) rfl (fun hg1 => ?_) (fun hg1 => ?_)
 try simp only [zgb9] at hg1
 refine TL.gs ?_
 refine TL.gs ?_
 refine TL.gs ?_
 refine TL.gs ?_
 refine TL.gs ?_
 refine TL.gs ?_
 refine TL.gs ?_
 refine TL.gs ?_
 refine TL.gs ?_
 refine TL.gd Pu.kt ?_
 refine TL.p Pu.kt ?_
 refine TL.p Pu.mv ?_
 refine TL.gd (by first | exact Pu.fb ty_fa36_1 | exact Pu.fe ty_fa36_1) ?_
 refine TL.gd (Pu.ld ty_sc3) ?_
 refine TL.gd (by first | exact Pu.fb ty_fa36_1 | exact Pu.fe ty_fa36_1) ?_
 refine TL.gd (Pu.ld ty_sc3) ?_
 refine TL.gd Pu.eq ?_
 refine TL.gd Pu.mv ?_
 refine TL.guard (t := 127) rfl (fun hg2 => ?_) (fun hg2 => ?_)
 try simp only [zgb9] at hg2
 refine TL.gs ?_
 refine TL.gs ?_
 refine TL.gs ?_
 refine TL.gs ?_
 refine TL.gs ?_
 refine TL.gs ?_
 refine TL.gs ?_
 refine TL.gs ?_
 refine TL.gs ?_
 refine TL.gd Pu.kt ?_
 refine TL.p Pu.kt ?_
 refine TL.p Pu.as ?_
 refine TL.nil (TQ.thenN (hY17 _ _ ?_))
 refine TW.ret ?_
 refine TQ.ret Tryz.results6 rfl ((.tmp rfl .nil)) ?_
 exact fun w hw => Ret.of hw
 try simp only [zgb9] at hg2
 refine TL.gd Pu.mv ?_
 refine TL.gd (by first | exact Pu.fb ty_fa36_1 | exact Pu.fe ty_fa36_1) ?_
 refine TL.gd (Pu.ld ty_sc3) ?_
 refine TL.gd Pu.ad ?_
 refine TL.gd (by first | exact Pu.fb ty_fa36_1 | exact Pu.fe ty_fa36_1) ?_
 refine TL.gd (Pu.ld ty_sc3) ?_
 refine TL.cr rfl (enters Tryz.func18 rfl rfl) (fun w hw => by
   exact span2_any _ _ _) ?_
 refine TL.cv rfl rfl (enters Tryz.func26 rfl rfl) (fun w hw => by
   exact fT _ b1 b2 i _ _ (hI.sat hw) hi (hw.holds (.blk b1 22 [.slice A H.n cp]) (Pick.mem pk9)) (hw.holds (.blk b2 3 [.int .i64 (i : Int)]) (Pick.mem pk9))) ?_
 refine TL.lit (t := 135) (b' := false) rfl ((decide_eq_false (hbhi (by assumption)))) ?_
 refine TL.gd Pu.no ?_
 refine TL.gd Pu.kf ?_
 refine TL.p Pu.kt ?_
 refine TL.p Pu.as ?_
 refine TL.nil (TQ.thenN (hY17 _ _ ?_))
 refine TW.ret ?_
 refine TQ.ret Tryz.results6 rfl ((.tmp rfl .nil)) ?_
 exact fun w hw => Ret.of hw
 try simp only [zgb9] at hg1
 refine TL.gd Pu.mv ?_
 refine TL.gd (by first | exact Pu.fb ty_fa36_0 | exact Pu.fe ty_fa36_0) ?_
 refine TL.gd (Pu.ld ty_sc3) ?_
 refine TL.gd (by first | exact Pu.fb ty_fa36_0 | exact Pu.fe ty_fa36_0) ?_
 refine TL.gd (Pu.ld ty_sc3) ?_
 refine TL.gd Pu.sb ?_
 refine TL.cr rfl (enters Tryz.func18 rfl rfl) (fun w hw => by
   exact span2_any _ _ _) ?_
 refine TL.cv rfl rfl (enters Tryz.func26 rfl rfl) (fun w hw => by
   exact fT _ b1 b2 i _ _ (hI.sat hw) hi (hw.holds (.blk b1 22 [.slice A H.n cp]) (Pick.mem pk9)) (hw.holds (.blk b2 3 [.int .i64 (i : Int)]) (Pick.mem pk9))) ?_
 refine TL.lit (t := 117) (b' := false) rfl ((decide_eq_false (hblo (by assumption)))) ?_
 refine TL.gd Pu.no ?_
 refine TL.gd Pu.kf ?_
 refine TL.p Pu.kt ?_
 refine TL.p Pu.mv ?_
 refine TL.gd (by first | exact Pu.fb ty_fa36_1 | exact Pu.fe ty_fa36_1) ?_
 refine TL.gd (Pu.ld ty_sc3) ?_
 refine TL.gd (by first | exact Pu.fb ty_fa36_1 | exact Pu.fe ty_fa36_1) ?_
 refine TL.gd (Pu.ld ty_sc3) ?_
 refine TL.gd Pu.eq ?_
 refine TL.gd Pu.mv ?_
 refine TL.guard (t := 127) rfl (fun hg3 => ?_) (fun hg3 => ?_)
 try simp only [zgb9] at hg3
 refine TL.gs ?_
 refine TL.gs ?_
 refine TL.gs ?_
 refine TL.gs ?_
 refine TL.gs ?_
 refine TL.gs ?_
 refine TL.gs ?_
 refine TL.gs ?_
 refine TL.gs ?_
 refine TL.gd Pu.kt ?_
 refine TL.p Pu.kt ?_
 refine TL.p Pu.as ?_
 refine TL.nil (TQ.thenN (hY17 _ _ ?_))
 refine TW.ret ?_
 refine TQ.ret Tryz.results6 rfl ((.tmp rfl .nil)) ?_
 exact fun w hw => Ret.of hw
 try simp only [zgb9] at hg3
 refine TL.gd Pu.mv ?_
 refine TL.gd (by first | exact Pu.fb ty_fa36_1 | exact Pu.fe ty_fa36_1) ?_
 refine TL.gd (Pu.ld ty_sc3) ?_
 refine TL.gd Pu.ad ?_
 refine TL.gd (by first | exact Pu.fb ty_fa36_1 | exact Pu.fe ty_fa36_1) ?_
 refine TL.gd (Pu.ld ty_sc3) ?_
 refine TL.cr rfl (enters Tryz.func18 rfl rfl) (fun w hw => by
   exact span2_any _ _ _) ?_
 refine TL.cv rfl rfl (enters Tryz.func26 rfl rfl) (fun w hw => by
   exact fT _ b1 b2 i _ _ (hI.sat hw) hi (hw.holds (.blk b1 22 [.slice A H.n cp]) (Pick.mem pk9)) (hw.holds (.blk b2 3 [.int .i64 (i : Int)]) (Pick.mem pk9))) ?_
 refine TL.lit (t := 135) (b' := false) rfl ((decide_eq_false (hbhi (by assumption)))) ?_
 refine TL.gd Pu.no ?_
 refine TL.gd Pu.kf ?_
 refine TL.p Pu.kt ?_
 refine TL.p Pu.as ?_
 refine TL.nil (TQ.thenN (hY17 _ _ ?_))
 refine TW.ret ?_
 refine TQ.ret Tryz.results6 rfl ((.tmp rfl .nil)) ?_
 exact fun w hw => Ret.of hw
 refine RG.tk 0 rfl Pu.mv ?_
 refine RG.tk 1 rfl (Pu.ld ty_sc3) ?_
 refine RG.tk 2 rfl (Pu.el ty_et31) ?_
 refine RG.tk 3 rfl (Pu.lds ty_ag36) ?_
 refine RG.tk 4 rfl (Pu.ld ty_sc22) ?_
 refine RG.tk 5 rfl (Pu.ld ty_sc3) ?_
 refine RG.tk 6 rfl (Pu.el ty_et22) ?_
 refine RG.tk 7 rfl (by first | exact Pu.fb ty_fa46_2 | exact Pu.fe ty_fa46_2) ?_
 refine RG.tk 8 rfl (Pu.lds ty_ag36) ?_
 refine RG.a2 9 10 rfl rfl (fun X9 hX9 => ?_) (fun X10 hX10 => ?_)
 refine TL.m (Mk.al ty_zr36) ?_
 intro x9
 refine TL.nil ?_
 refine TQ.nxt (hX9 _ _ hl9 ?_)
 refine RG.a1 10 rfl (fun X10 hX10 => ?_)
 refine TL.m (Mk.al ty_zr36) ?_
 intro x10
 refine TL.nil ?_
 refine TQ.nxt (hX10 _ _ hl9 ?_)
 refine RG.a1 11 rfl (fun X11 hX11 => ?_)
 first | refine TL.st ty_sz36 ?_ | refine TL.se ty_sz36 ?_
 refine TL.nil ?_
 refine TQ.nxt (hX11 _ _ hl9 ?_)
 refine RG.a1 12 rfl (fun X12 hX12 => ?_)
 first | refine TL.st ty_sz36 ?_ | refine TL.se ty_sz36 ?_
 refine TL.nil ?_
 refine TQ.nxt (hX12 _ _ hl9 ?_)
 exact RG.nil (TQ.sub fs9 kt9 (hE ⟨x9, x10⟩)) (by kernel_rfl)
 refine TL.m (Mk.al ty_zr36) ?_
 intro x10
 refine TL.nil ?_
 refine TQ.nxt (hX10 _ _ hl9 ?_)
 refine RG.a1 9 rfl (fun X9 hX9 => ?_)
 refine TL.m (Mk.al ty_zr36) ?_
 intro x9
 refine TL.nil ?_
 refine TQ.nxt (hX9 _ _ hl9 ?_)
 refine RG.a1 11 rfl (fun X11 hX11 => ?_)
 first | refine TL.st ty_sz36 ?_ | refine TL.se ty_sz36 ?_
 refine TL.nil ?_
 refine TQ.nxt (hX11 _ _ hl9 ?_)
 refine RG.a1 12 rfl (fun X12 hX12 => ?_)
 first | refine TL.st ty_sz36 ?_ | refine TL.se ty_sz36 ?_
 refine TL.nil ?_
 refine TQ.nxt (hX12 _ _ hl9 ?_)
 exact RG.nil (TQ.sub fs9 kt9 (hE ⟨x9, x10⟩)) (by kernel_rfl)
 refine TW.region ?_
 refine TL.p (Pu.ld ty_sc22) ?_
 refine TL.cr rfl (enters Tryz.func13 rfl rfl) (fun w hw => by
   exact ready2_any (hR.sat hw Apart.nil) (fun i hi => (hM i hi).sat hw Apart.nil)) ?_
 refine TL.p Pu.no ?_
 refine TL.p Pu.mv ?_
 refine TL.guard (t := 16) rfl (fun hg4 => ?_) (fun hg4 => ?_)
 try simp only [zgb9] at hg4
 refine TL.gs ?_
 refine TL.gs ?_
 refine TL.gs ?_
 refine TL.p Pu.kt ?_
 refine TL.p Pu.mv ?_
 refine TL.gs ?_
 refine TL.gs ?_
 refine TL.p Pu.kt ?_
 refine TL.nil ?_
 exact TQ.sub (by repeat (first | exact trivial | refine ⟨rfl, ?_⟩ | refine ⟨trivial, ?_⟩ | refine ⟨(by show some (Value.bool _) = some (Value.bool _); first | (simp [hg4]; done) | (refine congrArg (fun z => some (Value.bool z)) (Bool.eq_iff_iff.2 ?_); simp [hg4]; omega)), ?_⟩)) ks9 hJ1
 try simp only [zgb9] at hg4
 refine TL.gd (Pu.ld ty_sc22) ?_
 refine TL.gd (Pu.ln Tryz.underlying22) ?_
 refine TL.gd Pu.eq ?_
 refine TL.p Pu.kf ?_
 refine TL.p Pu.mv ?_
 refine TL.guard (t := 21) rfl (fun hg5 => ?_) (fun hg5 => ?_)
 try simp only [zgb9] at hg5
 refine TL.gs ?_
 refine TL.gs ?_
 refine TL.p Pu.kt ?_
 refine TL.nil ?_
 exact TQ.sub (by repeat (first | exact trivial | refine ⟨rfl, ?_⟩ | refine ⟨trivial, ?_⟩ | refine ⟨(by show some (Value.bool _) = some (Value.bool _); first | (simp [hg4, hg5]; done) | (refine congrArg (fun z => some (Value.bool z)) (Bool.eq_iff_iff.2 ?_); simp [hg4, hg5]; omega)), ?_⟩)) ks9 hJ1
 try simp only [zgb9] at hg5
 refine TL.gd Pu.mv ?_
 refine TL.gd Pu.no ?_
 refine TL.lit (t := 23) (b' := false) rfl (rfl) ?_
 refine TL.p Pu.kf ?_
 refine TL.nil ?_
 exact TQ.sub (by repeat (first | exact trivial | refine ⟨rfl, ?_⟩ | refine ⟨trivial, ?_⟩ | refine ⟨(by show some (Value.bool _) = some (Value.bool _); first | (simp [hg4, hg5]; done) | (refine congrArg (fun z => some (Value.bool z)) (Bool.eq_iff_iff.2 ?_); simp [hg4, hg5]; omega)), ?_⟩)) ks9 hJ1
end
end Go.Proofs.YtbenhafhklfhmaaGreat
namespace Go.Proofs.YtbenhafhklfhmaaGreat
set_option linter.all false
set_option linter.unusedVariables false
set_option linter.unusedSimpArgs false
open Go.ChangeShapes Go.WideShapes Go.ChangeAt Go.RowKit Go.Deep
theorem Tryz.own : ownKnob Tryz.prog.godebug = none := by kernel_rfl
theorem Tryz.laidOut : laidOutB Tryz.prog = true := by kernel_rfl
set_option maxRecDepth 100000 in
theorem brandBorn_lifted (os : Os) (started : os.Started) (H : Type) (enc : TypeId × Value → H) :
    ReturnsInHanded {} Tryz.checked os 6 .any (Rows.brandBornSpec.pre6 enc Tryz.prog Tryz.f6 Rows.brandBornRow.domain false) (Rows.brandBornSpec.post enc Tryz.prog Tryz.f6 false true false false) := by
  refine returnsInHanded_of_change (C := Tryz.checked) Tryz.own started (by kernel_rfl) Tryz.func6
    (ChangeSpec.witness6 (enc := enc) (C := Tryz.checked) false ⟨#[], #[.slice none 0 0, .int .u8 0], []⟩ 8 (by kernel_rfl) (by kernel_rfl) (by kernel_rfl) (by kernel_rfl)) ?_
  intro W base args ds gs before hval0 hW hcnd _
  have hval : ∀ (j : Nat) t v, Tryz.f6.params[j]? = some t → args[j]? = some v → Value.okWide Tryz.prog W .any base t v := hval0
  have hW' := hW
  obtain ⟨p, q, hA0, hV, rfl, hfz, hnd⟩ := hW
  have hA : DataW.TrodAll enc Tryz.prog W 0 (fun _ => true) true Tryz.f6.params.toList args.toList ds p := hA0
  have hA1 := hA
  rw [Tryz.params6] at hA hval
  obtain ⟨v0, v1, d0, d1, p0, p1, rfl, rfl, rfl, h0, h1⟩ := trodAll_two hA
  obtain ⟨rfl, rfl⟩ := trodVars_none hV
  obtain ⟨A, cp, Hh, a, c, rfl, hR, hM⟩ := open_herd (hval 0 22 v0 rfl rfl) h0
  obtain ⟨o, rfl, ho⟩ := open_u8b Tryz.underlying5 (hval 1 5 v1 rfl rfl) h1
  clear hA0 hval0
  simp only [List.append_nil] at hW'
  refine (lawBorn_any hR hM o ho).mono ?_
  rintro e W' ⟨rfl, hb⟩
  exact ⟨_, rfl, law_post Tryz.laidOut rfl hW' hA1 (by kernel_rfl) (by kernel_rfl) Tryz.underlying4 rfl hb⟩
theorem brandBorn_holds : Rows.BrandBornSaid :=
  OpenClaim.holds_of_wide 6 Tryz.f6 rfl rfl rfl rfl rfl rfl rfl ⟨rfl, rfl, rfl, rfl, rfl⟩ rfl rfl rfl rfl rfl (by kernel_rfl) Tryz.func6 (by kernel_rfl)
    (of_decide_eq_true (by kernel_rfl)) (by unfold Func.isWrapper; first | (rw [if_pos (by decide +kernel)]; kernel_rfl) | (rw [if_neg (by decide +kernel)]; exact ⟨rfl, rfl⟩))
    (fun os started H enc _ => brandBorn_lifted os started H enc)
end Go.Proofs.YtbenhafhklfhmaaGreat
