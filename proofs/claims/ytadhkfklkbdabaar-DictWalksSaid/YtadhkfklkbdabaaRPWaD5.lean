import Derived.Deep.RegionLaw
import Derived.Deep.Cut
import Derived.WalkSpells
import Derived.Maps.OwnOps
import Derived.Maps.OwnSet
import Derived.Maps.Views
import Derived.Maps.Own
import Derived.DeepKeys5
import Derived.Outline
import Derived.Deep.AppendLies
import Derived.Laws.CopyRow
import Derived.Laws.CopyOwn
import Derived.StillTailTactics
import Derived.Test.YtadhkfklkbdabaaRPWaD4
import Derived.Test.YtadhkfklkbdabaaRPWaGxF36
import Derived.Test.YtadhkfklkbdabaaRPWaGxF31
set_option linter.unusedVariables false
set_option linter.unusedSimpArgs false
section
namespace Go.Proofs.YtadhkfklkbdabaaR.G
open Go.RowKit Go.Proofs.YtadhkfklkbdabaaRW.PrintWords Go.Proofs.YtadhkfklkbdabaaRW.PrintLast Go.Proofs.YtadhkfklkbdabaaRW.PrintMore
set_option linter.unusedVariables false
set_option linter.unusedSimpArgs false
def selN (l : List S24) (k : S24) : Option (Nat × Nat) := match idxP k (prsS l) 0 with | some i => some (arrN l, i + 2) | none => if placedB k (arrN l) = true then some (k.f1.toNat, 0) else if nullB k = true then some (0, 0) else none
def tailS (l : List S24) (fr be : Nat) : S24 × Int := match firstN ((arrS l).drop fr) fr with
 | some i => (⟨3, (i : Int) + 1⟩, 0)
 | none => if be < (prsS l).length then (rd_T24 (prsS l) be, 0) else (⟨1, 0⟩, 0)
theorem nextS_bad {l : List S24} {k : S24} (h : okS l = false) : nextS l k = (⟨0, 0⟩, 2) := by unfold nextS; rw [h]; rfl
theorem nextS_may {l : List S24} {k : S24} (h : (H.mayB k.f0 k.f1 && !(k.f0 == 0)) = false) : nextS l k = (⟨0, 0⟩, 2) := by unfold nextS; rw [h, Bool.and_false]; rfl
theorem nextS_sel {l : List S24} {k : S24} (h : okS l = true) (h2 : (H.mayB k.f0 k.f1 && !(k.f0 == 0)) = true) : nextS l k = (match selN l k with | none => (⟨0, 0⟩, 5) | some (fr, be) => tailS l fr be) := by unfold nextS; rw [h, h2]; rfl
theorem nextS_no {l : List S24} {k : S24} (h : okS l = true) (h2 : (H.mayB k.f0 k.f1 && !(k.f0 == 0)) = true) (h3 : idxP k (prsS l) 0 = none) (h4 : placedB k (arrN l) = false) (h5 : nullB k = false) : nextS l k = (⟨0, 0⟩, 5) := by
 rw [nextS_sel h h2]; unfold selN; rw [h3, h4, h5]; rfl
theorem nextS_pair {l : List S24} {k : S24} {i : Nat} (h : okS l = true) (h2 : (H.mayB k.f0 k.f1 && !(k.f0 == 0)) = true) (h3 : idxP k (prsS l) 0 = some i) : nextS l k = tailS l (arrN l) (i + 2) := by
 rw [nextS_sel h h2]; unfold selN; rw [h3]
theorem nextS_placed {l : List S24} {k : S24} (h : okS l = true) (h2 : (H.mayB k.f0 k.f1 && !(k.f0 == 0)) = true) (h3 : idxP k (prsS l) 0 = none) (h4 : placedB k (arrN l) = true) : nextS l k = tailS l k.f1.toNat 0 := by
 rw [nextS_sel h h2]; unfold selN; rw [h3, h4]; rfl
theorem nextS_null {l : List S24} {k : S24} (h : okS l = true) (h2 : (H.mayB k.f0 k.f1 && !(k.f0 == 0)) = true) (h3 : idxP k (prsS l) 0 = none) (h4 : placedB k (arrN l) = false) (h5 : nullB k = true) : nextS l k = tailS l 0 0 := by
 rw [nextS_sel h h2]; unfold selN; rw [h3, h4, h5]; rfl
theorem tail_some {l : List S24} {fr be j : Nat} (h : firstN ((arrS l).drop fr) fr = some j) : tailS l fr be = (⟨3, (j : Int) + 1⟩, 0) := by unfold tailS; rw [h]
theorem tail_pair {l : List S24} {fr be : Nat} (h : firstN ((arrS l).drop fr) fr = none) (hb : be < (prsS l).length) : tailS l fr be = (rd_T24 (prsS l) be, 0) := by unfold tailS; rw [h]; simp only [if_pos hb]
theorem tail_end {l : List S24} {fr be : Nat} (h : firstN ((arrS l).drop fr) fr = none) (hb : ¬ be < (prsS l).length) : tailS l fr be = (⟨1, 0⟩, 0) := by unfold tailS; rw [h]; simp only [if_neg hb]
theorem one_drop {l : List S24} {j : Nat} (h : j < l.length) : l.drop j = rd_T24 l (j : Int) :: l.drop (j + 1) := by
 rw [List.drop_eq_getElem_cons h]
 congr 1
 unfold rd_T24
 rw [Int.toNat_natCast, List.getD_eq_getElem?_getD, List.getElem?_eq_getElem h]
 rfl
set_option maxHeartbeats 2000000 in
theorem next_any (A : Option Addr) (c : Nat) (l : List S24) (k : S24) (w : World) (hr : Kd.C k24 w A l.length l) (hc : l.length ≤ c) (hl : l.length ≤ 1000000) (hin : ∀ v ∈ l, inV v = true) (hk : inV k = true) :
  Calls Try.prog 28 #[.slice A l.length c, .agg #[.int .i64 k.f0, .int .i64 k.f1]] w fun e w' => e = .returned (.tuple #[.agg #[.int .i64 (nextS l k).1.f0, .int .i64 (nextS l k).1.f1], .int .i64 (nextS l k).2]) ∧ Below w.heap.size w w' := by
 obtain ⟨kl, hkl⟩ := klV_eq hk
 have HKL := Aside0.mk hkl
 have HPP := Aside0.mk (fun w' (hb : Below w.heap.size w w') => parts_any A c l w' (Kd.C_below hr hb) hc hl hin)
 clear hr hc hin hk hkl
 go_enter Try.func28, Try.ntmps28
 go_wp2_with (with_reducible refine (HPP.out _ (below_alloc (below_alloc (Below.refl _ _) _) _)).mono ?_)
 rintro e w1 ⟨h, hb⟩
 have HB1 := Aside0.mk (below_step (below_alloc (below_alloc (Below.refl _ _) _) _) hb)
 have HK1 := Aside0.mk (blk_below (blk_alloc (blk_new w (Obj.cells #[.int .i64 k.f0, .int .i64 k.f1] 24)) (Obj.cells #[.int .i64 0, .int .i64 0] 24)) hb)
 have HR1 := Aside0.mk (show w1.heap[w.heap.size + 1]? = some (.cells #[.int .i64 0, .int .i64 0] 24 (0, 0)) by simpa using blk_below (blk_new (w.alloc (Obj.cells #[.int .i64 k.f0, .int .i64 k.f1] 24)) (Obj.cells #[.int .i64 0, .int .i64 0] 24)) hb)
 clear hb
 have c0 : w1.cell? ⟨w.heap.size, 0, none⟩ = some (.int .i64 k.f0) := (blk_cell HK1.out 0).trans rfl
 have c1 : w1.cell? ⟨w.heap.size, 1, none⟩ = some (.int .i64 k.f1) := (blk_cell HK1.out 1).trans rfl
 have z0 : w1.cell? ⟨w.heap.size + 1, 0, none⟩ = some (.int .i64 0) := (blk_cell HR1.out 0).trans rfl
 have z1 : w1.cell? ⟨w.heap.size + 1, 1, none⟩ = some (.int .i64 0) := (blk_cell HR1.out 1).trans rfl
 have f0 : w1.frozen? ⟨w.heap.size + 1, 0, none⟩ = false := blk_frozen HR1.out 0
 have f1 : w1.frozen? ⟨w.heap.size + 1, 1, none⟩ = false := blk_frozen HR1.out 1
 rcases h with ⟨hk, rfl⟩ | ⟨hk, Aa, ca, Ap, cp, b, N, D, rfl, hla, hlp, hCa, hCp, hown, hmap⟩
 ·have HN := Aside0.mk (nextS_bad (k := k) hk)
  clear hk
  go_wp2_with fail
  exact bodyPost_ret (results_ct rfl _ _ (w.heap.size + 1) 24 #[.int .i64 0, .int .i64 0] (0, 0) _ rfl (blk_put (blk_put HR1.out 0 _ rfl) 1 _ rfl) Try.underlying24 rfl (by kernel_rfl)) rfl ⟨by rw [HN.out]; rfl, (HB1.out.setCell (by show w.heap.size ≤ w.heap.size + 1; omega) _).setCell (by show w.heap.size ≤ w.heap.size + 1; omega) _⟩
 ·have HK := Aside0.mk hk
  have HCA1 := Aside0.mk hCa
  have HCP1 := Aside0.mk hCp
  have HOW1 := Aside0.mk hown
  have HMP := Aside0.mk hmap
  have HLN := Aside0.mk (len_arr (headB_of hk))
  have hsa : (arrS l).length ≤ 1000000 := by unfold arrS; rw [List.length_take, List.length_drop]; omega
  have hsp : (prsS l).length ≤ 1000000 := by unfold prsS; rw [List.length_drop]; omega
  clear hk hCa hCp hown hmap hla hlp
  go_wp2_with fail
  refine (H.may_any k.f0 k.f1 _ _ rfl).mono ?_
  rintro e w2 ⟨rfl, hb2⟩
  have HB2 := Aside0.mk (HB1.out.trans (hb2.mono HB1.out.size))
  have HK2 := Aside0.mk (blk_below HK1.out hb2)
  have HR2 := Aside0.mk (blk_below HR1.out hb2)
  have HCA2 := Aside0.mk (Kd.C_below HCA1.out hb2)
  have HCP2 := Aside0.mk (Kd.C_below HCP1.out hb2)
  have HOW2 := Aside0.mk (Map_below HOW1.out hb2)
  have c0 : w2.cell? ⟨w.heap.size, 0, none⟩ = some (.int .i64 k.f0) := (blk_cell HK2.out 0).trans rfl
  have c1 : w2.cell? ⟨w.heap.size, 1, none⟩ = some (.int .i64 k.f1) := (blk_cell HK2.out 1).trans rfl
  have z0 : w2.cell? ⟨w.heap.size + 1, 0, none⟩ = some (.int .i64 0) := (blk_cell HR2.out 0).trans rfl
  have z1 : w2.cell? ⟨w.heap.size + 1, 1, none⟩ = some (.int .i64 0) := (blk_cell HR2.out 1).trans rfl
  have f0 : w2.frozen? ⟨w.heap.size + 1, 0, none⟩ = false := blk_frozen HR2.out 0
  have f1 : w2.frozen? ⟨w.heap.size + 1, 1, none⟩ = false := blk_frozen HR2.out 1
  clear hb2 HB1 HK1 HR1 HCA1 HCP1 HOW1
  cases hm : H.mayB k.f0 k.f1 with
  | false =>
   have HN := Aside0.mk (nextS_may (l := l) (k := k) (by rw [hm]; rfl))
   go_wp2_with fail
   exact bodyPost_ret (results_ct rfl _ _ (w.heap.size + 1) 24 #[.int .i64 0, .int .i64 0] (0, 0) _ rfl (blk_put (blk_put HR2.out 0 _ rfl) 1 _ rfl) Try.underlying24 rfl (by kernel_rfl)) rfl ⟨by rw [HN.out]; rfl, (HB2.out.setCell (by show w.heap.size ≤ w.heap.size + 1; omega) _).setCell (by show w.heap.size ≤ w.heap.size + 1; omega) _⟩
  | true =>
   cases hz9 : k.f0 == 0 with
   | true =>
    have HN := Aside0.mk (nextS_may (l := l) (k := k) (by rw [hm, hz9]; rfl))
    go_wp2_with fail
    exact bodyPost_ret (results_ct rfl _ _ (w.heap.size + 1) 24 #[.int .i64 0, .int .i64 0] (0, 0) _ rfl (blk_put (blk_put HR2.out 0 _ rfl) 1 _ rfl) Try.underlying24 rfl (by kernel_rfl)) rfl ⟨by rw [HN.out]; rfl, (HB2.out.setCell (by show w.heap.size ≤ w.heap.size + 1; omega) _).setCell (by show w.heap.size ≤ w.heap.size + 1; omega) _⟩
   | false =>
    have HMY := Aside0.mk (show (H.mayB k.f0 k.f1 && !(k.f0 == 0)) = true by rw [hm, hz9]; rfl)
    have hhas := HMP.out.has k kl HKL.out
    clear hm
    cases hix : idxP k (prsS l) 0 with
    | some i =>
     rw [hix] at hhas
     have HHS := Aside0.mk hhas
     have hbd := idxP_lt k _ _ _ hix
     have HAT := Aside0.mk (HMP.out.at_ k kl i HKL.out hix)
     have HNX := Aside0.mk (show nextS l k = tailS l (arrS l).length (i + 2) by rw [HLN.out]; exact nextS_pair HK.out HMY.out hix)
     have hb9 : i + 1 < (prsS l).length := by omega
     have hfr : (arrS l).length ≤ (arrS l).length := Nat.le_refl _
     clear hhas hix hbd
     go_wp2_with (at_lookup; (refine wpList_lookup_own_ok_int _ rfl _ _ 54 rfl 24 3 .i64 law24 Try.underlying54 Try.underlying3 (zero3 _) b N D rfl HOW2.out _ kl rfl HKL.out ?_; intro c9 hat9 hwc9; rw [HHS.out]; (obtain rfl : c9 = (i : Int) := by have := (HAT.out _).symm.trans hat9; injection this with this; injection this with _ this; exact this.symm); clear hat9 hwc9))
     go_loopw [14] (fun v wr => ∃ j : Nat, v = .int .i64 j ∧ j ≤ (arrS l).length ∧ firstN ((arrS l).drop j) j = firstN ((arrS l).drop (arrS l).length) (arrS l).length ∧ Below w2.heap.size w2 wr) (fun v _ => (arrS l).length - (intOf v).toNat)
     case atStart => exact ⟨(arrS l).length, rfl, hfr, rfl, Below.refl _ _⟩
     case round =>
      obtain ⟨j, rfl, hj, hf, hbel⟩ := hrel
      have HF := Aside0.mk hf
      have HB8 := Aside0.mk (HB2.out.trans (hbel.mono HB2.out.size))
      have HR8 := Aside0.mk (blk_below HR2.out hbel)
      have HCA8 := Aside0.mk (Kd.C_below HCA2.out hbel)
      have HCP8 := Aside0.mk (Kd.C_below HCP2.out hbel)
      have HBL := Aside0.mk hbel
      clear hf hbel c0 c1 z0 z1 f0 f1
      by_cases hlt : j < (arrS l).length
      ·obtain ⟨ad, hA, q0, q1⟩ := at_T24 HCA8.out (j : Int) (by omega) (by omega)
       subst hA
       simp only [Int.toNat_natCast] at q0 q1
       have HX := Aside0.mk (one_drop hlt)
       obtain ⟨x, hxx⟩ : ∃ x, rd_T24 (arrS l) (j : Int) = x := ⟨_, rfl⟩
       rw [hxx] at HX q0 q1
       clear hxx
       have hltc : (j : Int) < ((arrS l).length : Int) := by omega
       go_wp2_with fail
       refine (null_any x wr).mono ?_
       rintro e w8 ⟨rfl, hb8⟩
       have HB9 := Aside0.mk (HB8.out.trans (hb8.mono HB8.out.size))
       have HR9 := Aside0.mk (blk_below HR8.out hb8)
       have HBL9 := Aside0.mk (HBL.out.trans (hb8.mono HBL.out.size))
       clear hb8 HB8 HR8 HBL q0 q1
       cases hpx : nullB x with
       | true =>
        have hz := Aside0.mk (show firstN ((arrS l).drop (j + 1)) (j + 1) = firstN ((arrS l).drop (arrS l).length) (arrS l).length by rw [← HF.out, HX.out]; show _ = (if nullB x = true then _ else _); rw [if_pos hpx])
        go_wp2_with fail
        go_roundw
        case rel => exact ⟨j + 1, by simp, hlt, hz.out, HBL9.out⟩
        case measure => simp [intOf]; omega
       | false =>
        have hz := Aside0.mk (show firstN ((arrS l).drop (arrS l).length) (arrS l).length = some j by rw [← HF.out, HX.out]; show (if nullB x = true then _ else some j) = some j; rw [if_neg (by rw [hpx]; decide)])
        have HN9 := Aside0.mk (HNX.out.trans (tail_some hz.out))
        go_wp2_with fail
        refine (dict_integer.calls _ _ _ _ rfl).mono ?_
        rintro e w9 ⟨rfl, hb9⟩
        have HB10 := Aside0.mk (HB9.out.trans (hb9.mono HB9.out.size))
        have HR10 := Aside0.mk (blk_below HR9.out hb9)
        clear hb9 HB9 HR9
        have z0 : w9.cell? ⟨w.heap.size + 1, 0, none⟩ = some (.int .i64 0) := (blk_cell HR10.out 0).trans rfl
        have z1 : w9.cell? ⟨w.heap.size + 1, 1, none⟩ = some (.int .i64 0) := (blk_cell HR10.out 1).trans rfl
        have f0 : w9.frozen? ⟨w.heap.size + 1, 0, none⟩ = false := blk_frozen HR10.out 0
        have f1 : w9.frozen? ⟨w.heap.size + 1, 1, none⟩ = false := blk_frozen HR10.out 1
        go_wp2_with fail
        exact bodyPost_ret (results_ct rfl _ _ (w.heap.size + 1) 24 #[.int .i64 3, .int .i64 ((j : Int) + 1)] (0, 0) _ rfl (blk_put (blk_put HR10.out 0 _ rfl) 1 _ rfl) Try.underlying24 rfl (by kernel_rfl)) rfl ⟨by rw [HN9.out]; rfl, (HB10.out.setCell (by show w.heap.size ≤ w.heap.size + 1; omega) _).setCell (by show w.heap.size ≤ w.heap.size + 1; omega) _⟩
      ·have hz := Aside0.mk (show firstN ((arrS l).drop (arrS l).length) (arrS l).length = none by rw [← HF.out, List.drop_eq_nil_of_le (by omega)]; rfl)
       have hltc : ¬ ((j : Int) < ((arrS l).length : Int)) := by omega
       have z0 : wr.cell? ⟨w.heap.size + 1, 0, none⟩ = some (.int .i64 0) := (blk_cell HR8.out 0).trans rfl
       have z1 : wr.cell? ⟨w.heap.size + 1, 1, none⟩ = some (.int .i64 0) := (blk_cell HR8.out 1).trans rfl
       have f0 : wr.frozen? ⟨w.heap.size + 1, 0, none⟩ = false := blk_frozen HR8.out 0
       have f1 : wr.frozen? ⟨w.heap.size + 1, 1, none⟩ = false := blk_frozen HR8.out 1
       by_cases hbe : (i + 2) < (prsS l).length
       ·have HN9 := Aside0.mk (HNX.out.trans (tail_pair hz.out hbe))
        obtain ⟨ap, hA, q0, q1⟩ := at_T24 HCP8.out ((i : Int) + 2) (by omega) (by omega)
        subst hA
        have hbc : ((i : Int) + 2) < ((prsS l).length : Int) := by omega
        simp only [show (((i : Int) + 2)).toNat = (i + 2) by omega] at q0 q1
        skip
        go_wp2_with fail
        exact bodyPost_ret (results_ct rfl _ _ (w.heap.size + 1) 24 #[.int .i64 (rd_T24 (prsS l) ((i : Int) + 2)).f0, .int .i64 (rd_T24 (prsS l) ((i : Int) + 2)).f1] (0, 0) _ rfl (blk_put (blk_put HR8.out 0 _ rfl) 1 _ rfl) Try.underlying24 rfl (by kernel_rfl)) rfl ⟨by rw [HN9.out]; rfl, (HB8.out.setCell (by show w.heap.size ≤ w.heap.size + 1; omega) _).setCell (by show w.heap.size ≤ w.heap.size + 1; omega) _⟩
       ·have HN9 := Aside0.mk (HNX.out.trans (tail_end hz.out hbe))
        have hbc : ¬ (((i : Int) + 2) < ((prsS l).length : Int)) := by omega
        go_wp2_with fail
        exact bodyPost_ret (results_ct rfl _ _ (w.heap.size + 1) 24 #[.int .i64 1, .int .i64 0] (0, 0) _ rfl (blk_put (blk_put HR8.out 0 _ rfl) 1 _ rfl) Try.underlying24 rfl (by kernel_rfl)) rfl ⟨by rw [HN9.out]; rfl, (HB8.out.setCell (by show w.heap.size ≤ w.heap.size + 1; omega) _).setCell (by show w.heap.size ≤ w.heap.size + 1; omega) _⟩
    | none =>
     rw [hix] at hhas
     have HHS := Aside0.mk hhas
     have HIX := Aside0.mk hix
     clear hhas hix
     go_wp2_with (at_lookup; (refine wpList_lookup_own_ok_int _ rfl _ _ 54 rfl 24 3 .i64 law24 Try.underlying54 Try.underlying3 (zero3 _) b N D rfl HOW2.out _ kl rfl HKL.out ?_; intro c9 hat9 hwc9; rw [HHS.out]; clear hat9 hwc9))
     refine (placed_any k (arrS l).length _).mono ?_
     rintro e w3 ⟨rfl, hb3⟩
     have HB3 := Aside0.mk (HB2.out.trans (hb3.mono HB2.out.size))
     have HK3 := Aside0.mk (blk_below HK2.out hb3)
     have HR3 := Aside0.mk (blk_below HR2.out hb3)
     have HCA3 := Aside0.mk (Kd.C_below HCA2.out hb3)
     have HCP3 := Aside0.mk (Kd.C_below HCP2.out hb3)
     have HOW3 := Aside0.mk (Map_below HOW2.out hb3)
     have c0 : w3.cell? ⟨w.heap.size, 0, none⟩ = some (.int .i64 k.f0) := (blk_cell HK3.out 0).trans rfl
     have c1 : w3.cell? ⟨w.heap.size, 1, none⟩ = some (.int .i64 k.f1) := (blk_cell HK3.out 1).trans rfl
     have z0 : w3.cell? ⟨w.heap.size + 1, 0, none⟩ = some (.int .i64 0) := (blk_cell HR3.out 0).trans rfl
     have z1 : w3.cell? ⟨w.heap.size + 1, 1, none⟩ = some (.int .i64 0) := (blk_cell HR3.out 1).trans rfl
     have f0 : w3.frozen? ⟨w.heap.size + 1, 0, none⟩ = false := blk_frozen HR3.out 0
     have f1 : w3.frozen? ⟨w.heap.size + 1, 1, none⟩ = false := blk_frozen HR3.out 1
     clear hb3 HB2 HK2 HR2 HCA2 HCP2 HOW2
     cases hpl : placedB k (arrS l).length with
     | true =>
      obtain ⟨g1, g2⟩ := placed_bd hpl
      have HNX := Aside0.mk (nextS_placed HK.out HMY.out HIX.out (by rw [← HLN.out]; exact hpl))
      have hfr : k.f1.toNat ≤ (arrS l).length := by omega
      clear hpl
      go_wp2_with fail
      go_loopw [14] (fun v wr => ∃ j : Nat, v = .int .i64 j ∧ j ≤ (arrS l).length ∧ firstN ((arrS l).drop j) j = firstN ((arrS l).drop k.f1.toNat) k.f1.toNat ∧ Below w3.heap.size w3 wr) (fun v _ => (arrS l).length - (intOf v).toNat)
      case atStart => exact ⟨k.f1.toNat, (by rw [Int.toNat_of_nonneg (by omega)]), hfr, rfl, Below.refl _ _⟩
      case round =>
       obtain ⟨j, rfl, hj, hf, hbel⟩ := hrel
       have HF := Aside0.mk hf
       have HB8 := Aside0.mk (HB3.out.trans (hbel.mono HB3.out.size))
       have HR8 := Aside0.mk (blk_below HR3.out hbel)
       have HCA8 := Aside0.mk (Kd.C_below HCA3.out hbel)
       have HCP8 := Aside0.mk (Kd.C_below HCP3.out hbel)
       have HBL := Aside0.mk hbel
       clear hf hbel c0 c1 z0 z1 f0 f1
       by_cases hlt : j < (arrS l).length
       ·obtain ⟨ad, hA, q0, q1⟩ := at_T24 HCA8.out (j : Int) (by omega) (by omega)
        subst hA
        simp only [Int.toNat_natCast] at q0 q1
        have HX := Aside0.mk (one_drop hlt)
        obtain ⟨x, hxx⟩ : ∃ x, rd_T24 (arrS l) (j : Int) = x := ⟨_, rfl⟩
        rw [hxx] at HX q0 q1
        clear hxx
        have hltc : (j : Int) < ((arrS l).length : Int) := by omega
        go_wp2_with fail
        refine (null_any x wr).mono ?_
        rintro e w8 ⟨rfl, hb8⟩
        have HB9 := Aside0.mk (HB8.out.trans (hb8.mono HB8.out.size))
        have HR9 := Aside0.mk (blk_below HR8.out hb8)
        have HBL9 := Aside0.mk (HBL.out.trans (hb8.mono HBL.out.size))
        clear hb8 HB8 HR8 HBL q0 q1
        cases hpx : nullB x with
        | true =>
         have hz := Aside0.mk (show firstN ((arrS l).drop (j + 1)) (j + 1) = firstN ((arrS l).drop k.f1.toNat) k.f1.toNat by rw [← HF.out, HX.out]; show _ = (if nullB x = true then _ else _); rw [if_pos hpx])
         go_wp2_with fail
         go_roundw
         case rel => exact ⟨j + 1, by simp, hlt, hz.out, HBL9.out⟩
         case measure => simp [intOf]; omega
        | false =>
         have hz := Aside0.mk (show firstN ((arrS l).drop k.f1.toNat) k.f1.toNat = some j by rw [← HF.out, HX.out]; show (if nullB x = true then _ else some j) = some j; rw [if_neg (by rw [hpx]; decide)])
         have HN9 := Aside0.mk (HNX.out.trans (tail_some hz.out))
         go_wp2_with fail
         refine (dict_integer.calls _ _ _ _ rfl).mono ?_
         rintro e w9 ⟨rfl, hb9⟩
         have HB10 := Aside0.mk (HB9.out.trans (hb9.mono HB9.out.size))
         have HR10 := Aside0.mk (blk_below HR9.out hb9)
         clear hb9 HB9 HR9
         have z0 : w9.cell? ⟨w.heap.size + 1, 0, none⟩ = some (.int .i64 0) := (blk_cell HR10.out 0).trans rfl
         have z1 : w9.cell? ⟨w.heap.size + 1, 1, none⟩ = some (.int .i64 0) := (blk_cell HR10.out 1).trans rfl
         have f0 : w9.frozen? ⟨w.heap.size + 1, 0, none⟩ = false := blk_frozen HR10.out 0
         have f1 : w9.frozen? ⟨w.heap.size + 1, 1, none⟩ = false := blk_frozen HR10.out 1
         go_wp2_with fail
         exact bodyPost_ret (results_ct rfl _ _ (w.heap.size + 1) 24 #[.int .i64 3, .int .i64 ((j : Int) + 1)] (0, 0) _ rfl (blk_put (blk_put HR10.out 0 _ rfl) 1 _ rfl) Try.underlying24 rfl (by kernel_rfl)) rfl ⟨by rw [HN9.out]; rfl, (HB10.out.setCell (by show w.heap.size ≤ w.heap.size + 1; omega) _).setCell (by show w.heap.size ≤ w.heap.size + 1; omega) _⟩
       ·have hz := Aside0.mk (show firstN ((arrS l).drop k.f1.toNat) k.f1.toNat = none by rw [← HF.out, List.drop_eq_nil_of_le (by omega)]; rfl)
        have hltc : ¬ ((j : Int) < ((arrS l).length : Int)) := by omega
        have z0 : wr.cell? ⟨w.heap.size + 1, 0, none⟩ = some (.int .i64 0) := (blk_cell HR8.out 0).trans rfl
        have z1 : wr.cell? ⟨w.heap.size + 1, 1, none⟩ = some (.int .i64 0) := (blk_cell HR8.out 1).trans rfl
        have f0 : wr.frozen? ⟨w.heap.size + 1, 0, none⟩ = false := blk_frozen HR8.out 0
        have f1 : wr.frozen? ⟨w.heap.size + 1, 1, none⟩ = false := blk_frozen HR8.out 1
        by_cases hbe : 0 < (prsS l).length
        ·have HN9 := Aside0.mk (HNX.out.trans (tail_pair hz.out hbe))
         obtain ⟨ap, hA, q0, q1⟩ := at_T24 HCP8.out (0 : Int) (by omega) (by omega)
         subst hA
         have hbc : (0 : Int) < ((prsS l).length : Int) := by omega
         simp only [show ((0 : Int)).toNat = 0 by omega] at q0 q1
         simp only [Nat.reduceMul, Nat.reduceEqDiff, Go.Addr.add, ↓reduceIte] at q0 q1
         go_wp2_with fail
         exact bodyPost_ret (results_ct rfl _ _ (w.heap.size + 1) 24 #[.int .i64 (rd_T24 (prsS l) (0 : Int)).f0, .int .i64 (rd_T24 (prsS l) (0 : Int)).f1] (0, 0) _ rfl (blk_put (blk_put HR8.out 0 _ rfl) 1 _ rfl) Try.underlying24 rfl (by kernel_rfl)) rfl ⟨by rw [HN9.out]; rfl, (HB8.out.setCell (by show w.heap.size ≤ w.heap.size + 1; omega) _).setCell (by show w.heap.size ≤ w.heap.size + 1; omega) _⟩
        ·have HN9 := Aside0.mk (HNX.out.trans (tail_end hz.out hbe))
         have hbc : ¬ ((0 : Int) < ((prsS l).length : Int)) := by omega
         go_wp2_with fail
         exact bodyPost_ret (results_ct rfl _ _ (w.heap.size + 1) 24 #[.int .i64 1, .int .i64 0] (0, 0) _ rfl (blk_put (blk_put HR8.out 0 _ rfl) 1 _ rfl) Try.underlying24 rfl (by kernel_rfl)) rfl ⟨by rw [HN9.out]; rfl, (HB8.out.setCell (by show w.heap.size ≤ w.heap.size + 1; omega) _).setCell (by show w.heap.size ≤ w.heap.size + 1; omega) _⟩
     | false =>
      have HPL := Aside0.mk (show placedB k (arrN l) = false by rw [← HLN.out]; exact hpl)
      clear hpl
      go_wp2_with fail
      refine (null_any k _).mono ?_
      rintro e w4 ⟨rfl, hb4⟩
      have HB4 := Aside0.mk (HB3.out.trans (hb4.mono HB3.out.size))
      have HK4 := Aside0.mk (blk_below HK3.out hb4)
      have HR4 := Aside0.mk (blk_below HR3.out hb4)
      have HCA4 := Aside0.mk (Kd.C_below HCA3.out hb4)
      have HCP4 := Aside0.mk (Kd.C_below HCP3.out hb4)
      have HOW4 := Aside0.mk (Map_below HOW3.out hb4)
      have c0 : w4.cell? ⟨w.heap.size, 0, none⟩ = some (.int .i64 k.f0) := (blk_cell HK4.out 0).trans rfl
      have c1 : w4.cell? ⟨w.heap.size, 1, none⟩ = some (.int .i64 k.f1) := (blk_cell HK4.out 1).trans rfl
      have z0 : w4.cell? ⟨w.heap.size + 1, 0, none⟩ = some (.int .i64 0) := (blk_cell HR4.out 0).trans rfl
      have z1 : w4.cell? ⟨w.heap.size + 1, 1, none⟩ = some (.int .i64 0) := (blk_cell HR4.out 1).trans rfl
      have f0 : w4.frozen? ⟨w.heap.size + 1, 0, none⟩ = false := blk_frozen HR4.out 0
      have f1 : w4.frozen? ⟨w.heap.size + 1, 1, none⟩ = false := blk_frozen HR4.out 1
      clear hb4 HB3 HK3 HR3 HCA3 HCP3 HOW3
      cases hnl : nullB k with
      | true =>
       have HNX := Aside0.mk (nextS_null HK.out HMY.out HIX.out HPL.out hnl)
       have hfr : 0 ≤ (arrS l).length := Nat.zero_le _
       go_wp2_with fail
       go_loopw [14] (fun v wr => ∃ j : Nat, v = .int .i64 j ∧ j ≤ (arrS l).length ∧ firstN ((arrS l).drop j) j = firstN ((arrS l).drop 0) 0 ∧ Below w4.heap.size w4 wr) (fun v _ => (arrS l).length - (intOf v).toNat)
       case atStart => exact ⟨0, rfl, hfr, rfl, Below.refl _ _⟩
       case round =>
        obtain ⟨j, rfl, hj, hf, hbel⟩ := hrel
        have HF := Aside0.mk hf
        have HB8 := Aside0.mk (HB4.out.trans (hbel.mono HB4.out.size))
        have HR8 := Aside0.mk (blk_below HR4.out hbel)
        have HCA8 := Aside0.mk (Kd.C_below HCA4.out hbel)
        have HCP8 := Aside0.mk (Kd.C_below HCP4.out hbel)
        have HBL := Aside0.mk hbel
        clear hf hbel c0 c1 z0 z1 f0 f1
        by_cases hlt : j < (arrS l).length
        ·obtain ⟨ad, hA, q0, q1⟩ := at_T24 HCA8.out (j : Int) (by omega) (by omega)
         subst hA
         simp only [Int.toNat_natCast] at q0 q1
         have HX := Aside0.mk (one_drop hlt)
         obtain ⟨x, hxx⟩ : ∃ x, rd_T24 (arrS l) (j : Int) = x := ⟨_, rfl⟩
         rw [hxx] at HX q0 q1
         clear hxx
         have hltc : (j : Int) < ((arrS l).length : Int) := by omega
         go_wp2_with fail
         refine (null_any x wr).mono ?_
         rintro e w8 ⟨rfl, hb8⟩
         have HB9 := Aside0.mk (HB8.out.trans (hb8.mono HB8.out.size))
         have HR9 := Aside0.mk (blk_below HR8.out hb8)
         have HBL9 := Aside0.mk (HBL.out.trans (hb8.mono HBL.out.size))
         clear hb8 HB8 HR8 HBL q0 q1
         cases hpx : nullB x with
         | true =>
          have hz := Aside0.mk (show firstN ((arrS l).drop (j + 1)) (j + 1) = firstN ((arrS l).drop 0) 0 by rw [← HF.out, HX.out]; show _ = (if nullB x = true then _ else _); rw [if_pos hpx])
          go_wp2_with fail
          go_roundw
          case rel => exact ⟨j + 1, by simp, hlt, hz.out, HBL9.out⟩
          case measure => simp [intOf]; omega
         | false =>
          have hz := Aside0.mk (show firstN ((arrS l).drop 0) 0 = some j by rw [← HF.out, HX.out]; show (if nullB x = true then _ else some j) = some j; rw [if_neg (by rw [hpx]; decide)])
          have HN9 := Aside0.mk (HNX.out.trans (tail_some hz.out))
          go_wp2_with fail
          refine (dict_integer.calls _ _ _ _ rfl).mono ?_
          rintro e w9 ⟨rfl, hb9⟩
          have HB10 := Aside0.mk (HB9.out.trans (hb9.mono HB9.out.size))
          have HR10 := Aside0.mk (blk_below HR9.out hb9)
          clear hb9 HB9 HR9
          have z0 : w9.cell? ⟨w.heap.size + 1, 0, none⟩ = some (.int .i64 0) := (blk_cell HR10.out 0).trans rfl
          have z1 : w9.cell? ⟨w.heap.size + 1, 1, none⟩ = some (.int .i64 0) := (blk_cell HR10.out 1).trans rfl
          have f0 : w9.frozen? ⟨w.heap.size + 1, 0, none⟩ = false := blk_frozen HR10.out 0
          have f1 : w9.frozen? ⟨w.heap.size + 1, 1, none⟩ = false := blk_frozen HR10.out 1
          go_wp2_with fail
          exact bodyPost_ret (results_ct rfl _ _ (w.heap.size + 1) 24 #[.int .i64 3, .int .i64 ((j : Int) + 1)] (0, 0) _ rfl (blk_put (blk_put HR10.out 0 _ rfl) 1 _ rfl) Try.underlying24 rfl (by kernel_rfl)) rfl ⟨by rw [HN9.out]; rfl, (HB10.out.setCell (by show w.heap.size ≤ w.heap.size + 1; omega) _).setCell (by show w.heap.size ≤ w.heap.size + 1; omega) _⟩
        ·have hz := Aside0.mk (show firstN ((arrS l).drop 0) 0 = none by rw [← HF.out, List.drop_eq_nil_of_le (by omega)]; rfl)
         have hltc : ¬ ((j : Int) < ((arrS l).length : Int)) := by omega
         have z0 : wr.cell? ⟨w.heap.size + 1, 0, none⟩ = some (.int .i64 0) := (blk_cell HR8.out 0).trans rfl
         have z1 : wr.cell? ⟨w.heap.size + 1, 1, none⟩ = some (.int .i64 0) := (blk_cell HR8.out 1).trans rfl
         have f0 : wr.frozen? ⟨w.heap.size + 1, 0, none⟩ = false := blk_frozen HR8.out 0
         have f1 : wr.frozen? ⟨w.heap.size + 1, 1, none⟩ = false := blk_frozen HR8.out 1
         by_cases hbe : 0 < (prsS l).length
         ·have HN9 := Aside0.mk (HNX.out.trans (tail_pair hz.out hbe))
          obtain ⟨ap, hA, q0, q1⟩ := at_T24 HCP8.out (0 : Int) (by omega) (by omega)
          subst hA
          have hbc : (0 : Int) < ((prsS l).length : Int) := by omega
          simp only [show ((0 : Int)).toNat = 0 by omega] at q0 q1
          simp only [Nat.reduceMul, Nat.reduceEqDiff, Go.Addr.add, ↓reduceIte] at q0 q1
          go_wp2_with fail
          exact bodyPost_ret (results_ct rfl _ _ (w.heap.size + 1) 24 #[.int .i64 (rd_T24 (prsS l) (0 : Int)).f0, .int .i64 (rd_T24 (prsS l) (0 : Int)).f1] (0, 0) _ rfl (blk_put (blk_put HR8.out 0 _ rfl) 1 _ rfl) Try.underlying24 rfl (by kernel_rfl)) rfl ⟨by rw [HN9.out]; rfl, (HB8.out.setCell (by show w.heap.size ≤ w.heap.size + 1; omega) _).setCell (by show w.heap.size ≤ w.heap.size + 1; omega) _⟩
         ·have HN9 := Aside0.mk (HNX.out.trans (tail_end hz.out hbe))
          have hbc : ¬ ((0 : Int) < ((prsS l).length : Int)) := by omega
          go_wp2_with fail
          exact bodyPost_ret (results_ct rfl _ _ (w.heap.size + 1) 24 #[.int .i64 1, .int .i64 0] (0, 0) _ rfl (blk_put (blk_put HR8.out 0 _ rfl) 1 _ rfl) Try.underlying24 rfl (by kernel_rfl)) rfl ⟨by rw [HN9.out]; rfl, (HB8.out.setCell (by show w.heap.size ≤ w.heap.size + 1; omega) _).setCell (by show w.heap.size ≤ w.heap.size + 1; omega) _⟩
      | false =>
       have HN := Aside0.mk (nextS_no HK.out HMY.out HIX.out HPL.out hnl)
       go_wp2_with fail
       exact bodyPost_ret (results_ct rfl _ _ (w.heap.size + 1) 24 #[.int .i64 0, .int .i64 0] (0, 0) _ rfl (blk_put (blk_put HR4.out 0 _ rfl) 1 _ rfl) Try.underlying24 rfl (by kernel_rfl)) rfl ⟨by rw [HN.out]; rfl, (HB4.out.setCell (by show w.heap.size ≤ w.heap.size + 1; omega) _).setCell (by show w.heap.size ≤ w.heap.size + 1; omega) _⟩
end Go.Proofs.YtadhkfklkbdabaaR.G
end
