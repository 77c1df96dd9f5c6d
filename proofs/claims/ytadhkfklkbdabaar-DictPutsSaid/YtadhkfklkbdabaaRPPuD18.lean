import Derived.Deep.RegionLaw
import Derived.Deep.Cut
import Derived.WalkSpells
import Derived.Maps.OwnOps
import Derived.Maps.OwnSet
import Derived.Maps.Views
import Derived.Maps.Own
import Derived.DeepKeys5
import Derived.Outline
import Derived.Deep.AppendLies
import Derived.Laws.CopyRow
import Derived.Laws.CopyOwn
import Derived.StillTailTactics
import Derived.Test.YtadhkfklkbdabaaRPPuD16
set_option linter.unusedVariables false
set_option linter.unusedSimpArgs false
section
namespace Go.Proofs.YtadhkfklkbdabaaR.G
open Go.RowKit Go.Proofs.YtadhkfklkbdabaaRW.PrintWords Go.Proofs.YtadhkfklkbdabaaRW.PrintLast Go.Proofs.YtadhkfklkbdabaaRW.PrintMore
set_option linter.unusedVariables false
set_option linter.unusedSimpArgs false
theorem putS_bad {l : List S24} {k v : S24} (h : okS l = false) : putS l k v = ([], [], 2) := by unfold putS; rw [h]; rfl
theorem putS_may {l : List S24} {k v : S24} (h : (H.mayB k.f0 k.f1 && (H.mayB v.f0 v.f1 && !(v.f0 == 0))) = false) : putS l k v = ([], [], 2) := by unfold putS; rw [h, Bool.and_false]; rfl
theorem putS_key {l : List S24} {k v : S24} (h : okS l = true) (h2 : (H.mayB k.f0 k.f1 && (H.mayB v.f0 v.f1 && !(v.f0 == 0))) = true) (h3 : keyB k = false) : putS l k v = ([], [], 9) := by unfold putS; rw [h, h2, h3]; rfl
theorem putS_ok {l : List S24} {k v : S24} (h : okS l = true) (h2 : (H.mayB k.f0 k.f1 && (H.mayB v.f0 v.f1 && !(v.f0 == 0))) = true) (h3 : keyB k = true) : putS l k v = ([rd_T24 l 0, ⟨3, ((changeS (arrS l) (prsS l) k v).1.length : Int)⟩] ++ (changeS (arrS l) (prsS l) k v).1 ++ (changeS (arrS l) (prsS l) k v).2.1, (changeS (arrS l) (prsS l) k v).2.2, 0) := by
 unfold putS; rw [h, h2, h3]; simp
def PutR (l : List S24) (k v : S24) (w : World) (e : Ending) (w' : World) : Prop := ∃ v0 v1 : Value, e = .returned (.tuple #[v0, v1, .int .i64 (putS l k v).2.2]) ∧ Kd.R k24 24 w' w.heap.size (fun b => some b ≠ v1.ownBlock) v0 (putS l k v).1 ∧ Kd.R k24 24 w' w.heap.size (fun b => some b ≠ v0.ownBlock) v1 (putS l k v).2.1 ∧ Below w.heap.size w w'
theorem putR_none {l : List S24} {k v : S24} {w w' : World} {n : Int} (h : putS l k v = ([], [], n)) (hb : Below w.heap.size w w') : PutR l k v w (.returned (.tuple #[.slice none 0 0, .slice none 0 0, .int .i64 n])) w' :=
 ⟨.slice none 0 0, .slice none 0 0, by rw [h], by rw [h]; exact Kd.R_nil _ _ _ _ _, by rw [h]; exact Kd.R_nil _ _ _ _ _, hb⟩
theorem trimN_len (l : List S24) : (trimN l).length ≤ l.length := by
 unfold trimN
 rw [List.length_reverse]
 exact Nat.le_trans (List.dropWhile_sublist _).length_le (by rw [List.length_reverse]; exact Nat.le_refl _)
theorem layS_len (l : List S24) (i : Nat) (v : S24) : (layS l i v).length ≤ l.length := by
 unfold layS
 by_cases h : i + 1 < l.length
 ·rw [if_pos h, List.length_set]; exact Nat.le_refl _
 ·rw [if_neg h]; exact Nat.le_trans (trimN_len _) (by rw [List.length_set]; exact Nat.le_refl _)
theorem growS_len : ∀ (n : Nat) (a q : List S24), (growS n a q).1.length + (growS n a q).2.length ≤ a.length + q.length
 | 0, a, q => Nat.le_refl _
 | n + 1, a, q => by
  unfold growS
  cases e : idxP ⟨3, (a.length : Int) + 1⟩ q 0 with
  | none => exact Nat.le_refl _
  | some i =>
   have hb := (idxP_bound _ _ q 0 i (Nat.le_refl _) e).2
   have := growS_len n (a ++ [rd_T24 q (i + 1)]) (takeP q i)
   rw [takeP_len, List.length_append, List.length_singleton] at this
   simp only at this ⊢
   omega
theorem changeS_len (a q : List S24) (k v : S24) : (changeS a q k v).1.length + (changeS a q k v).2.1.length ≤ a.length + q.length + 2 := by
 unfold changeS
 by_cases h : placedB k a.length = true
 ·rw [if_pos h]; have := layS_len a (k.f1 - 1).toNat v; simp only; omega
 ·rw [if_neg h]
  cases hi : idxP k q 0 with
  | some i =>
   by_cases hn : nullB v = true
   ·simp only [if_pos hn, takeP_len]; omega
   ·simp only [if_neg hn, List.length_set]; omega
  | none =>
   by_cases hn : nullB v = true
   ·simp only [if_pos hn]; omega
   ·simp only [if_neg hn]
    by_cases hp : placedB k (a.length + 1) = true
    ·rw [if_pos hp]
     have := growS_len (q.length + 1) (a ++ [v]) q
     rw [List.length_append, List.length_singleton] at this
     simp only
     omega
    ·rw [if_neg hp]; simp only [List.length_append, List.length_cons, List.length_nil]; omega
set_option maxHeartbeats 4000000 in
theorem put10_any (A : Option Addr) (c : Nat) (l : List S24) (k v : S24) (w : World) (hr : Kd.C k24 w A l.length l) (hc : l.length ≤ c) (hl : l.length ≤ 1000000) (hin : ∀ v ∈ l, inV v = true) :
  Calls Try.prog 10 #[.slice A l.length c, .agg #[.int .i64 k.f0, .int .i64 k.f1], .agg #[.int .i64 v.f0, .int .i64 v.f1]] w (PutR l k v w) := by
 have HPP := Aside0.mk (fun w' (hb : Below w.heap.size w w') => parts_any A c l w' (Kd.C_below hr hb) hc hl hin)
 have HR := Aside0.mk hr
 clear hr hc hin
 go_enter Try.func10, Try.ntmps10
 go_wp2_with (with_reducible refine (HPP.out _ (below_alloc (below_alloc (Below.refl _ _) _) _)).mono ?_)
 rintro e w1 ⟨h, hb⟩
 have HB1 := Aside0.mk (below_step (below_alloc (below_alloc (Below.refl _ _) _) _) hb)
 have HK1 := Aside0.mk (blk_below (blk_alloc (blk_new w (Obj.cells #[.int .i64 k.f0, .int .i64 k.f1] 24)) (Obj.cells #[.int .i64 v.f0, .int .i64 v.f1] 24)) hb)
 have HV1 := Aside0.mk (show w1.heap[w.heap.size + 1]? = some (.cells #[.int .i64 v.f0, .int .i64 v.f1] 24 (0, 0)) by simpa using blk_below (blk_new (w.alloc (Obj.cells #[.int .i64 k.f0, .int .i64 k.f1] 24)) (Obj.cells #[.int .i64 v.f0, .int .i64 v.f1] 24)) hb)
 clear hb
 have k0 : w1.cell? ⟨w.heap.size, 0, none⟩ = some (.int .i64 k.f0) := (blk_cell HK1.out 0).trans rfl
 have k1 : w1.cell? ⟨w.heap.size, 1, none⟩ = some (.int .i64 k.f1) := (blk_cell HK1.out 1).trans rfl
 have v0 : w1.cell? ⟨w.heap.size + 1, 0, none⟩ = some (.int .i64 v.f0) := (blk_cell HV1.out 0).trans rfl
 have v1 : w1.cell? ⟨w.heap.size + 1, 1, none⟩ = some (.int .i64 v.f1) := (blk_cell HV1.out 1).trans rfl
 rcases h with ⟨hk, rfl⟩ | ⟨hk, Aa, ca, Ap, cp, b, N, D, rfl, hla, hlp, hCa, hCp, hown, hmap⟩
 ·have HN := Aside0.mk (putS_bad (k := k) (v := v) hk)
  clear hk
  go_wp2_with fail
  go_ret3
  exact putR_none HN.out HB1.out
 ·have HK := Aside0.mk hk
  have HCA1 := Aside0.mk hCa
  have HCP1 := Aside0.mk hCp
  have hsl : (arrS l).length + (prsS l).length + 2 ≤ 1000000 := by
   have h2 := headB_of hk
   unfold headB at h2
   simp only [Bool.and_eq_true, decide_eq_true_eq] at h2
   have h3 := len_arr (headB_of hk)
   unfold prsS
   rw [List.length_drop]
   unfold arrN at h3 ⊢
   omega
  have hl2 : 2 ≤ l.length := by
   have h2 := headB_of hk
   unfold headB at h2
   simp only [Bool.and_eq_true, decide_eq_true_eq] at h2
   exact h2.1
  have HEV := Aside0.mk (show (prsS l).length % 2 = 0 by
   unfold okS at hk
   simp only [Bool.and_eq_true, beq_iff_eq] at hk
   exact hk.2.2.2.1)
  clear hk hCa hCp hown hmap hla hlp
  go_wp2_with fail
  refine (H.may_any k.f0 k.f1 _ _ rfl).mono ?_
  rintro e w2 ⟨rfl, hb2⟩
  have HB2 := Aside0.mk (HB1.out.trans (hb2.mono HB1.out.size))
  have HK2 := Aside0.mk (blk_below HK1.out hb2)
  have HV2 := Aside0.mk (blk_below HV1.out hb2)
  have HCA2 := Aside0.mk (Kd.C_below HCA1.out hb2)
  have HCP2 := Aside0.mk (Kd.C_below HCP1.out hb2)
  clear hb2 HB1 HK1 HV1 HCA1 HCP1 k0 k1 v0 v1
  have k0 : w2.cell? ⟨w.heap.size, 0, none⟩ = some (.int .i64 k.f0) := (blk_cell HK2.out 0).trans rfl
  have k1 : w2.cell? ⟨w.heap.size, 1, none⟩ = some (.int .i64 k.f1) := (blk_cell HK2.out 1).trans rfl
  have v0 : w2.cell? ⟨w.heap.size + 1, 0, none⟩ = some (.int .i64 v.f0) := (blk_cell HV2.out 0).trans rfl
  have v1 : w2.cell? ⟨w.heap.size + 1, 1, none⟩ = some (.int .i64 v.f1) := (blk_cell HV2.out 1).trans rfl
  cases hm : H.mayB k.f0 k.f1 with
  | false =>
   have HN := Aside0.mk (putS_may (l := l) (k := k) (v := v) (by rw [hm]; rfl))
   go_wp2_with fail
   go_ret3
   exact putR_none HN.out HB2.out
  | true =>
   go_wp2_with fail
   refine (H.may_any v.f0 v.f1 _ _ rfl).mono ?_
   rintro e w3 ⟨rfl, hb3⟩
   have HB3 := Aside0.mk (HB2.out.trans (hb3.mono HB2.out.size))
   have HK3 := Aside0.mk (blk_below HK2.out hb3)
   have HV3 := Aside0.mk (blk_below HV2.out hb3)
   have HCA3 := Aside0.mk (Kd.C_below HCA2.out hb3)
   have HCP3 := Aside0.mk (Kd.C_below HCP2.out hb3)
   clear hb3 HB2 HK2 HV2 HCA2 HCP2 k0 k1 v0 v1
   have k0 : w3.cell? ⟨w.heap.size, 0, none⟩ = some (.int .i64 k.f0) := (blk_cell HK3.out 0).trans rfl
   have k1 : w3.cell? ⟨w.heap.size, 1, none⟩ = some (.int .i64 k.f1) := (blk_cell HK3.out 1).trans rfl
   have v0 : w3.cell? ⟨w.heap.size + 1, 0, none⟩ = some (.int .i64 v.f0) := (blk_cell HV3.out 0).trans rfl
   have v1 : w3.cell? ⟨w.heap.size + 1, 1, none⟩ = some (.int .i64 v.f1) := (blk_cell HV3.out 1).trans rfl
   cases hm2 : H.mayB v.f0 v.f1 with
   | false =>
    have HN := Aside0.mk (putS_may (l := l) (k := k) (v := v) (by rw [hm, hm2]; rfl))
    go_wp2_with fail
    go_ret3
    exact putR_none HN.out HB3.out
   | true =>
    cases hz9 : v.f0 == 0 with
    | true =>
     have HN := Aside0.mk (putS_may (l := l) (k := k) (v := v) (by rw [hm, hm2, hz9]; rfl))
     go_wp2_with fail
     go_ret3
     exact putR_none HN.out HB3.out
    | false =>
     have HMY := Aside0.mk (show (H.mayB k.f0 k.f1 && (H.mayB v.f0 v.f1 && !(v.f0 == 0))) = true by rw [hm, hm2, hz9]; rfl)
     clear hm hm2
     go_wp2_with fail
     refine (key_any k _).mono ?_
     rintro e w4 ⟨rfl, hb4⟩
     have HB4 := Aside0.mk (HB3.out.trans (hb4.mono HB3.out.size))
     have HK4 := Aside0.mk (blk_below HK3.out hb4)
     have HV4 := Aside0.mk (blk_below HV3.out hb4)
     have HCA4 := Aside0.mk (Kd.C_below HCA3.out hb4)
     have HCP4 := Aside0.mk (Kd.C_below HCP3.out hb4)
     clear hb4 HB3 HK3 HV3 HCA3 HCP3 k0 k1 v0 v1
     cases hky : keyB k with
     | false =>
      have HN := Aside0.mk (putS_key (l := l) (k := k) (v := v) HK.out HMY.out hky)
      go_wp2_with fail
      go_ret3
      exact putR_none HN.out HB4.out
     | true =>
      have HP := Aside0.mk (putS_ok (l := l) (k := k) (v := v) HK.out HMY.out hky)
      go_wp2_with fail
      refine (clone_any Aa ca (arrS l) w4 HCA4.out (by omega)).mono ?_
      rintro e w5 ⟨va, rfl, hva, hb5⟩
      have HB5 := Aside0.mk (HB4.out.trans (hb5.mono HB4.out.size))
      have HK5 := Aside0.mk (blk_below HK4.out hb5)
      have HV5 := Aside0.mk (blk_below HV4.out hb5)
      have HCP5 := Aside0.mk (Kd.C_below HCP4.out hb5)
      have HVA := Aside0.mk hva
      have h45 : w4.heap.size ≤ w5.heap.size := hb5.size
      have h04 : w.heap.size ≤ w4.heap.size := HB4.out.size
      clear hva hb5 HB4 HK4 HV4 HCA4 HCP4
      go_wp2_with fail
      refine (clone_any Ap cp (prsS l) w5 HCP5.out (by omega)).mono ?_
      rintro e w6 ⟨vq, rfl, hvq, hb6⟩
      have HB6 := Aside0.mk (HB5.out.trans (hb6.mono HB5.out.size))
      have HK6 := Aside0.mk (blk_below HK5.out hb6)
      have HV6 := Aside0.mk (blk_below HV5.out hb6)
      have HVA6 := Aside0.mk (Kd.R_below HVA.out hb6)
      have HLA := Aside0.mk (Kd.R_lt HVA.out)
      have HVQ := Aside0.mk hvq
      have h56 : w5.heap.size ≤ w6.heap.size := hb6.size
      clear hvq hb6 HB5 HK5 HV5 HCP5 HVA
      have HT : Aside0 (Tab w.heap.size w6.heap.size (fun _ => True) (w6.alloc (.cells #[va, vq, .slice none 0 0] 60)) va vq (.slice none 0 0) (arrS l) (prsS l) []) := by
       have hbl := below_alloc (Below.refl w6.heap.size w6) (.cells #[va, vq, .slice none 0 0] 60)
       refine Aside0.mk ⟨blk_new _ _, Nat.le_trans h04 (Nat.le_trans h45 h56), ?_, ?_, ?_⟩
       ·refine R24_low (base := w4.heap.size) (R24_any (Kd.R_below HVA6.out hbl) (fun b hb => ⟨⟨trivial, ?_⟩, ?_, by simp [Value.ownBlock]⟩)) h04
        ·have := HLA.out b hb; omega
        ·intro he
         have h1 := HLA.out b hb
         have h2 := Kd.R_base HVQ.out b he.symm
         omega
       ·refine R24_low (base := w5.heap.size) (R24_any (Kd.R_below HVQ.out hbl) (fun b hb => ⟨⟨trivial, ?_⟩, ?_, by simp [Value.ownBlock]⟩)) (Nat.le_trans h04 h45)
        ·have := Kd.R_lt HVQ.out b hb; omega
        ·intro he
         have h1 := HLA.out b he.symm
         have h2 := Kd.R_base HVQ.out b hb
         omega
       ·exact Kd.R_nil _ _ _ _ _
      have HB7 := Aside0.mk (HB6.out.trans ((below_alloc (Below.refl w6.heap.size w6) (.cells #[va, vq, .slice none 0 0] 60)).mono HB6.out.size))
      have HK7 := Aside0.mk (blk_alloc HK6.out (.cells #[va, vq, .slice none 0 0] 60))
      have HV7 := Aside0.mk (blk_alloc HV6.out (.cells #[va, vq, .slice none 0 0] 60))
      obtain ⟨Aa2, ca2, rfl⟩ := Kd.R_slice HVA6.out
      obtain ⟨Aq2, cq2, rfl⟩ := Kd.R_slice HVQ.out
      clear HVA6 HVQ HLA HB6 HK6 HV6
      go_upto_region 7 with (fail)
      obtain ⟨w7, hw7⟩ : ∃ x, x = w6.alloc (.cells #[.slice Aa2 (arrS l).length ca2, .slice Aq2 (prsS l).length cq2, .slice none 0 0] 60) := ⟨_, rfl⟩
      rw [← hw7] at HT HB7 HK7 HV7 ⊢
      clear hw7
      have k0 : w7.cell? ⟨w.heap.size, 0, none⟩ = some (.int .i64 k.f0) := (blk_cell HK7.out 0).trans rfl
      have k1 : w7.cell? ⟨w.heap.size, 1, none⟩ = some (.int .i64 k.f1) := (blk_cell HK7.out 1).trans rfl
      have v0 : w7.cell? ⟨w.heap.size + 1, 0, none⟩ = some (.int .i64 v.f0) := (blk_cell HV7.out 0).trans rfl
      have v1 : w7.cell? ⟨w.heap.size + 1, 1, none⟩ = some (.int .i64 v.f1) := (blk_cell HV7.out 1).trans rfl
      clear HK7 HV7
      go_wp2_with fail
      refine (put_any w.heap.size w6.heap.size (fun _ => True) _ (.slice none 0 0) Aa2 ca2 (arrS l) (prsS l) [] k v w7 HT.out (fun _ _ => trivial) HEV.out (by omega) (by omega) (by simp)).mono ?_
      rintro e w8 ⟨va, vq, vg, rfl, ht8, hb8⟩
      have hlen := changeS_len (arrS l) (prsS l) k v
      obtain ⟨X, hX⟩ : ∃ X, X = changeS (arrS l) (prsS l) k v := ⟨_, rfl⟩
      rw [← hX] at ht8 hlen HP
      rw [List.nil_append] at ht8
      obtain ⟨a2, q2, g2⟩ := X
      simp only at ht8 hlen HP
      obtain ⟨Aa3, ca3, rfl⟩ := Kd.R_slice ht8.ra
      obtain ⟨Aq3, cq3, rfl⟩ := Kd.R_slice ht8.rq
      have HT8 := Aside0.mk ht8
      have HB8 := Aside0.mk (HB7.out.trans hb8)
      have HR8 := Aside0.mk (Kd.C_below HR.out HB8.out)
      clear ht8 hb8 HT HB7 HR k0 k1 v0 v1 hX h45 h04 h56
      obtain ⟨ad, hA, _, _⟩ := at_T24 HR8.out 0 (by omega) (by omega)
      subst hA
      go_wp2_with fail
      have HTd := Aside0.mk (Tab.below HT8.out (below_drew (Below.refl w8.heap.size w8)))
      refine Loose.region (ops := qops) (V := Vk.at (qtab l a2 q2 ad c w6.heap.size Aa3 ca3 Aq3 cq3 vg) w8.drew.heap.size) (by kernel_rfl) (Vk.stable _ _) (Loose.ins_of (by kernel_rfl)) qdsts rfl (qsteps l a2 q2 ad c w6.heap.size Aa3 ca3 Aq3 cq3 vg w8.drew _ _ rfl rfl HTd.out.cell (Kd.C_below HR8.out (below_drew (Below.refl _ _))) (Kd.R_reads' HTd.out.ra).2.2 (Kd.R_reads' HTd.out.rq).2.2 (by omega) (by omega) (by omega)) ?_
      intro listed a w9 hr hI
      have s6 := hI.has 24 _ 6 rfl rfl (all_listedB qdeps hI.lsize hr 24 (by decide +kernel))
      have s7 : a.tmps.getD 7 undef = vg := hI.has 25 _ 7 rfl rfl (all_listedB qdeps hI.lsize hr 25 (by decide +kernel))
      have s8 : a.tmps.getD 8 undef = .int .i64 0 := hI.has 26 _ 8 rfl rfl (all_listedB qdeps hI.lsize hr 26 (by decide +kernel))
      have hdf : a.defers = [] := hI.defers
      have HG := Aside0.mk (Kd.R_below HTd.out.rg hI.below)
      have HLG := Aside0.mk (Kd.R_lt HTd.out.rg)
      have HB9 := Aside0.mk (HB8.out.trans (((below_drew (Below.refl w8.heap.size w8)).trans hI.below).mono HB8.out.size))
      have h8 : w.heap.size ≤ w8.drew.heap.size := HB8.out.size
      clear hI hr HT8 HTd HR8 HB8
      obtain ⟨t, d⟩ := a
      dsimp only at s6 s7 s8 hdf
      subst hdf
      have S6 : Aside0 (Kd.R k24 24 w9 w8.drew.heap.size (fun _ => True) (t.getD 6 undef) ([rd_T24 l 0, ⟨3, (a2.length : Int)⟩] ++ a2 ++ q2)) := Aside0.mk s6
      clear s6
      go_wp2_with fail
      refine bodyPost_ret (results_tmp3 rfl _ _ _) rfl ⟨t.getD 6 undef, vg, by rw [s7, s8, HP.out], ?_, ?_, HB9.out⟩
      ·rw [HP.out]
       refine R24_low (base := w8.drew.heap.size) (R24_any S6.out (fun b hb he => ?_)) h8
       have h1 := HLG.out b he.symm
       have h2 := Kd.R_base S6.out b hb
       omega
      ·rw [HP.out]
       refine R24_any HG.out (fun b hb he => ?_)
       have h1 := HLG.out b hb
       have h2 := Kd.R_base S6.out b he.symm
       omega
def preB (l : List S24) (b : Bool) : Bool := decide (l.length ≤ 1000000) && (l.all inV && b)
theorem pre_of {α : Type} {l : List S24} {b : Bool} {x r : α} (h : (if preB l b = true then some x else none) = some r) : l.length ≤ 1000000 ∧ (∀ v ∈ l, inV v = true) ∧ b = true ∧ x = r := by
 by_cases hp : preB l b = true
 ·rw [if_pos hp] at h
  unfold preB at hp
  simp only [Bool.and_eq_true, decide_eq_true_eq] at hp
  exact ⟨hp.1, List.all_eq_true.1 hp.2.1, hp.2.2, Option.some.inj h⟩
 ·rw [if_neg hp] at h; cases h
end Go.Proofs.YtadhkfklkbdabaaR.G
end
