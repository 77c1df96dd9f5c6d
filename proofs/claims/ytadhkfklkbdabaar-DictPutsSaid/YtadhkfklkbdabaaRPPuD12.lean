import Derived.Deep.RegionLaw
import Derived.Deep.Cut
import Derived.WalkSpells
import Derived.Maps.OwnOps
import Derived.Maps.OwnSet
import Derived.Maps.Views
import Derived.Maps.Own
import Derived.DeepKeys5
import Derived.Outline
import Derived.Deep.AppendLies
import Derived.Laws.CopyRow
import Derived.Laws.CopyOwn
import Derived.StillTailTactics
import Derived.Test.YtadhkfklkbdabaaRPPuD11
set_option linter.unusedVariables false
set_option linter.unusedSimpArgs false
section
namespace Go.Proofs.YtadhkfklkbdabaaR.G
open Go.RowKit Go.Proofs.YtadhkfklkbdabaaRW.PrintWords Go.Proofs.YtadhkfklkbdabaaRW.PrintLast Go.Proofs.YtadhkfklkbdabaaRW.PrintMore
set_option linter.unusedVariables false
set_option linter.unusedSimpArgs false
theorem R24_any {W : World} {base : Nat} {ok ok' : Nat → Prop} {v : Value} {q : List S24} (h : Kd.R k24 24 W base ok v q) (h' : ∀ k, v.ownBlock = some k → ok' k) : Kd.R k24 24 W base ok' v q := R24_mk h' (R24_own h)
theorem Tab.apart {base p : Nat} {ok : Nat → Prop} {W : World} {va vq vg : Value} {a q g : List S24} (h : Tab base p ok W va vq vg a q g) {n : Nat} (hn : W.heap.size ≤ n) : Tab base p (fun b => ok b ∧ some b ≠ some n) W va vq vg a q g := by
 have f : ∀ {v : Value} {l : List S24} {o : Nat → Prop}, Kd.R k24 24 W base o v l → ∀ k, v.ownBlock = some k → some k ≠ some n := fun hr k hk he => by
  injection he with he
  have := Kd.R_lt hr k hk
  omega
 exact ⟨h.cell, h.pb, R24_any h.ra (fun k hk => ⟨⟨⟨(h.ra.1 k hk).1.1, f h.ra k hk⟩, (h.ra.1 k hk).1.2⟩, (h.ra.1 k hk).2⟩),
  R24_any h.rq (fun k hk => ⟨⟨⟨(h.rq.1 k hk).1.1, f h.rq k hk⟩, (h.rq.1 k hk).1.2⟩, (h.rq.1 k hk).2⟩),
  R24_any h.rg (fun k hk => ⟨⟨⟨(h.rg.1 k hk).1.1, f h.rg k hk⟩, (h.rg.1 k hk).1.2⟩, (h.rg.1 k hk).2⟩)⟩
theorem R24_lit {W : World} {base n : Nat} {ok : Nat → Prop} (l : List S24) (hg : W.heap[n]? = some (.cells (flat24 l).toArray 24 (0, 0))) (hb : base ≤ n) (hok : ok n) (hl : l.length ≤ maxLen) : Kd.R k24 24 W base ok (.slice (some ⟨n, 0, none⟩) l.length l.length) l :=
 R24_mk (fun k hk => by
   have : k = n := by simpa [Value.ownBlock] using hk.symm
   subst this; exact hok)
  ⟨flat24_len _, .inr ⟨n, l.length, _, rfl, hb, hg, Nat.le_refl _, hl, by rw [List.size_toArray, flat24_len], by rw [List.take_of_length_le]; rw [flat24_len]; exact Nat.le_refl _⟩⟩
theorem trimN_snoc (l : List S24) (y : S24) : trimN (l ++ [y]) = if nullB y = true then trimN l else l ++ [y] := by
 unfold trimN
 rw [List.reverse_append, List.reverse_cons, List.reverse_nil, List.nil_append, List.singleton_append, List.dropWhile_cons]
 by_cases h : nullB y = true
 ·rw [if_pos h, if_pos h]
 ·rw [if_neg h, if_neg h, List.reverse_cons, List.reverse_reverse]
theorem take_last {l : List S24} {n : Nat} {y : S24} (h0 : 0 < n) (h : n ≤ l.length) (hy : rd_T24 (l.take n) ((n : Int) - 1) = y) : l.take n = l.take (n - 1) ++ [y] := by
 subst hy
 unfold rd_T24
 rw [show ((n : Int) - 1).toNat = n - 1 by omega, List.getD_eq_getElem?_getD, List.getElem?_take_of_lt (by omega), List.getElem?_eq_getElem (by omega)]
 obtain ⟨m, rfl⟩ : ∃ m, n = m + 1 := ⟨n - 1, by omega⟩
 simp only [Nat.add_sub_cancel]
 rw [List.take_add_one, List.getElem?_eq_getElem (by omega)]
 rfl
def lenAt0 (w : World) (p : Nat) : Nat := match w.cell? ⟨p, 0, none⟩ with | some (.slice _ n _) => n | _ => 0
theorem flat24_set : ∀ (l : List S24) (i : Nat) (v : S24), flat24 (l.set i v) = ((flat24 l).set (i * 2) (.int .i64 v.f0)).set (i * 2 + 1) (.int .i64 v.f1)
 | [], i, v => by simp [flat24]
 | x :: l, 0, v => by simp [flat24]
 | x :: l, i + 1, v => by
  rw [List.set_cons_succ, show (i + 1) * 2 = i * 2 + 1 + 1 by omega]
  show _ :: _ :: flat24 (l.set i v) = List.set (List.set (_ :: _ :: flat24 l) _ _) _ _
  rw [List.set_cons_succ, List.set_cons_succ, List.set_cons_succ, List.set_cons_succ, flat24_set l i v]
theorem R24_set {W : World} {base ga c : Nat} {ok : Nat → Prop} {l : List S24} (h : Kd.R k24 24 W base ok (.slice (some ⟨ga, 0, none⟩) l.length c) l) (i : Nat) (v : S24) :
  Kd.R k24 24 ((W.setCell ⟨ga, i * 2, none⟩ (.int .i64 v.f0)).setCell ⟨ga, i * 2 + 1, none⟩ (.int .i64 v.f1)) base ok (.slice (some ⟨ga, 0, none⟩) l.length c) (l.set i v) := by
 refine R24_mk h.1 ?_
 rcases (R24_own h).2 with ⟨hx, hn⟩ | ⟨gq, cap, cur, hv, hb, hg, hc, hm, hs, ht⟩
 ·cases hx
 ·injection hv with hA _ hcc
  injection hA with hA
  injection hA with hA
  subst hA
  subst hcc
  refine ⟨flat24_len _, .inr ⟨ga, c, _, by rw [List.length_set], hb, blk_put (blk_put hg (i * 2) (.int .i64 v.f0) rfl) (i * 2 + 1) (.int .i64 v.f1) rfl, by rw [List.length_set]; exact hc, hm, by simpa using hs, ?_⟩⟩
  rw [List.length_set, flat24_set, ← ht, Array.toList_setIfInBounds, Array.toList_setIfInBounds, List.take_set, List.take_set]
theorem R_ga {W : World} {base : Nat} {ok : Nat → Prop} {A : Option Addr} {c : Nat} {l : List S24} (h : Kd.R k24 24 W base ok (.slice A l.length c) l) (hl : 0 < l.length) : ∃ ga cur, A = some ⟨ga, 0, none⟩ ∧ W.heap[ga]? = some (.cells cur 24 (0, 0)) ∧ base ≤ ga := by
 obtain ⟨_, hx⟩ := R24_own h
 rcases hx with ⟨hx, hn⟩ | ⟨gq, cap, cur, hv, hb, hg, hc, hm, hs, ht⟩
 ·omega
 ·injection hv with hA _ hcc
  exact ⟨gq, cur, hA, hg, hb⟩
theorem own_ga (ga n c : Nat) : (Value.slice (some ⟨ga, 0, none⟩) n c).ownBlock = some ga := by simp [Value.ownBlock]
theorem Tab.setat {base p ga ca : Nat} {ok : Nat → Prop} {W : World} {vq vg : Value} {a q g : List S24} (h : Tab base p ok W (.slice (some ⟨ga, 0, none⟩) a.length ca) vq vg a q g) (i : Nat) (v : S24) :
  Tab base p ok ((W.setCell ⟨ga, i * 2, none⟩ (.int .i64 v.f0)).setCell ⟨ga, i * 2 + 1, none⟩ (.int .i64 v.f1)) (.slice (some ⟨ga, 0, none⟩) a.length ca) vq vg (a.set i v) q g := by
 have hoth : ∀ k, k ≠ ga → ((W.setCell ⟨ga, i * 2, none⟩ (.int .i64 v.f0)).setCell ⟨ga, i * 2 + 1, none⟩ (.int .i64 v.f1)).heap[k]? = W.heap[k]? := fun k hk => by
  rw [RowKit.Below.heap_setCell _ _ _ _ (by simpa using hk), RowKit.Below.heap_setCell _ _ _ _ (by simpa using hk)]
 have hp : p ≠ ga := fun he => (h.ra.1 p (by rw [own_ga, he])).1.2 rfl
 exact ⟨(hoth p hp).trans h.cell, h.pb, R24_set h.ra i v, Kd.R_step h.rq (fun k hk _ => hoth k (fun he => hk.2.1 (by rw [own_ga, he]))), Kd.R_step h.rg (fun k hk _ => hoth k (fun he => hk.2.1 (by rw [own_ga, he])))⟩
set_option maxHeartbeats 2000000 in
theorem lay_any (base p : Nat) (ok : Nat → Prop) (vq vg : Value) (Aa : Option Addr) (ca : Nat) (a q g : List S24) (i : Nat) (v : S24) (w : World) (ht : Tab base p ok w (.slice Aa a.length ca) vq vg a q g) (hfresh : ∀ k, w.heap.size ≤ k → ok k) (hi : i < a.length) (hl : a.length ≤ 1000000) (hg : g.length ≤ 90) :
  Calls Try.prog 51 #[.pointer (some ⟨p, 0, none⟩), .int .i64 i, .agg #[.int .i64 v.f0, .int .i64 v.f1]] w fun e w' => ∃ va' vg', e = .returned (.tuple #[]) ∧ Tab base p ok w' va' vq vg' (layS a i v) q (g ++ refsL [rd_T24 a i]) ∧ Below base w w' := by
 have HT : Aside0 (GrI base p ok w (w.alloc (.cells #[.int .i64 v.f0, .int .i64 v.f1] 24)) vq vg (.slice Aa a.length ca) a q g) := Aside0.mk (GrI.below ⟨ht, Below.refl _ _⟩ (below_alloc (Below.refl w.heap.size w) (.cells #[.int .i64 v.f0, .int .i64 v.f1] 24)))
 have HBX := Aside0.mk (blk_new w (.cells #[.int .i64 v.f0, .int .i64 v.f1] 24))
 have HFR := Aside0.mk hfresh
 have HNP := Aside0.mk (show w.heap.size ≠ p ∧ some w.heap.size ≠ vg.ownBlock from ⟨by have := ht.lt; omega, Kd.fresh' (Kd.R_lt ht.rg) _ (Nat.le_refl _)⟩)
 have hbw : base ≤ w.heap.size := ht.base_le
 clear ht hfresh
 have hs1 : w.heap.size < (w.alloc (.cells #[.int .i64 v.f0, .int .i64 v.f1] 24)).heap.size := by simp
 have t0 : (w.alloc (.cells #[.int .i64 v.f0, .int .i64 v.f1] 24)).cell? ⟨p, 0, none⟩ = some (.slice Aa a.length ca) := (blk_cell HT.out.tab.cell 0).trans rfl
 have HC := Aside0.mk (Kd.R_reads' HT.out.tab.ra).2.2
 obtain ⟨ad, hA, c0, c1⟩ := at_T24 HC.out (i : Int) (by omega) (by omega)
 subst hA
 simp only [Int.toNat_natCast] at c0 c1
 obtain ⟨x, hxx⟩ : ∃ x, rd_T24 a (i : Int) = x := ⟨_, rfl⟩
 rw [hxx] at c0 c1 ⊢
 have hic : (i : Int) < (a.length : Int) := by omega
 go_enter Try.func51, Try.ntmps51
 go_wp2_with fail
 obtain ⟨w1, hw1⟩ : ∃ x, x = w.alloc (.cells #[.int .i64 v.f0, .int .i64 v.f1] 24) := ⟨_, rfl⟩
 have hn1 : w1.heap.size = w.heap.size + 1 := by rw [hw1]; simp
 rw [← hw1] at HT HBX HC hs1 t0 c0 c1
 try rw [← hw1]
 clear hw1
 have eo : (Value.slice (some ⟨w.heap.size + 1, 0, none⟩) [x].length 1).ownBlock = some (w.heap.size + 1) := by simp [Value.ownBlock]
 have hrow : (w1.alloc (.cells #[.int .i64 x.f0, .int .i64 x.f1] 24)).heap[w.heap.size + 1]? = some (.cells (flat24 [x]).toArray 24 (0, 0)) := by rw [← hn1]; exact blk_new w1 _
 have HT2 := Tab.below (Tab.apart HT.out.tab (n := w.heap.size + 1) (by omega)) (below_alloc (Below.refl w1.heap.size w1) (.cells #[.int .i64 x.f0, .int .i64 x.f1] 24))
 refine (leave_any base p ok (.slice (some ad) a.length ca) vq vg a q g (some ⟨w.heap.size + 1, 0, none⟩) 1 [x] _ (by rw [eo]; exact HT2)
  (R24_lit [x] hrow (by omega) ⟨⟨HFR.out _ (by omega), by have := HT.out.tab.lt; omega⟩, Kd.fresh' (Kd.R_lt HT.out.tab.ra) _ (by omega), Kd.fresh' (Kd.R_lt HT.out.tab.rq) _ (by omega), Kd.fresh' (Kd.R_lt HT.out.tab.rg) _ (by omega)⟩ (by simp [maxLen])) (fun k hk => HFR.out k (by simp at hk; omega)) (by simp) (by omega)).mono ?_
 rintro e w3 ⟨vg', rfl, ht3, hb3, hfar⟩
 have H3 : Aside0 (GrI base p ok w w3 vq vg' (.slice (some ad) a.length ca) a q (g ++ refsL [x])) := Aside0.mk ⟨ht3, (HT.out.bel.trans ((below_alloc (Below.refl w1.heap.size w1) _).mono HT.out.tab.base_le)).trans hb3⟩
 have HB3 := Aside0.mk ((hfar w.heap.size (by simp; omega) HNP.out.1 HNP.out.2).trans (blk_alloc HBX.out _))
 clear hfar ht3 hb3 HT2 hrow eo HT HBX HC t0 c0 c1
 have t0 : w3.cell? ⟨p, 0, none⟩ = some (.slice (some ad) a.length ca) := (blk_cell H3.out.tab.cell 0).trans rfl
 have b0 : w3.cell? ⟨w.heap.size, 0, none⟩ = some (.int .i64 v.f0) := (blk_cell HB3.out 0).trans rfl
 have b1 : w3.cell? ⟨w.heap.size, 1, none⟩ = some (.int .i64 v.f1) := (blk_cell HB3.out 1).trans rfl
 obtain ⟨ga, cur, hga, hgh, hgb⟩ := R_ga H3.out.tab.ra (by omega)
 injection hga with hga
 subst hga
 have z0 : w3.frozen? ⟨ga, i * 2, none⟩ = false := blk_frozen hgh _
 have z1 : w3.frozen? ⟨ga, i * 2 + 1, none⟩ = false := blk_frozen hgh _
 obtain ⟨ad, hA, c0, c1⟩ := at_T24 (Kd.R_reads' H3.out.tab.ra).2.2 (i : Int) (by omega) (by omega)
 injection hA with hA
 subst hA
 simp only [Int.toNat_natCast, Addr.add_lit, Nat.zero_add] at c0 c1
 go_wp2_with fail
 go_region
 have H4 : Aside0 (GrI base p ok w ((w3.setCell ⟨ga, i * 2, none⟩ (.int .i64 v.f0)).setCell ⟨ga, i * 2 + 1, none⟩ (.int .i64 v.f1)).drew vq vg' (.slice (some ⟨ga, 0, none⟩) a.length ca) (a.set i v) q (g ++ refsL [x])) := Aside0.mk (GrI.below ⟨Tab.setat H3.out.tab i v, (H3.out.bel.setCell hgb _).setCell hgb _⟩ (below_drew (Below.refl _ _)))
 obtain ⟨w4, hw4⟩ : ∃ y, y = ((w3.setCell ⟨ga, i * 2, none⟩ (.int .i64 v.f0)).setCell ⟨ga, i * 2 + 1, none⟩ (.int .i64 v.f1)).drew := ⟨_, rfl⟩
 rw [← hw4] at H4 ⊢
 clear hw4 H3 HB3 t0 b0 b1 z0 z1 c0 c1 hgh
 have t0 : w4.cell? ⟨p, 0, none⟩ = some (.slice (some ⟨ga, 0, none⟩) a.length ca) := (blk_cell H4.out.tab.cell 0).trans rfl
 have hls : (a.set i v).length = a.length := List.length_set
 by_cases hlast : i + 1 < a.length
 ·have hc1 : (i : Int) < (a.length : Int) - 1 := by omega
  have hz : layS a i v = a.set i v := by unfold layS; rw [if_pos hlast]
  go_wp2_with fail
  exact bodyPost_ret (results_none rfl _ _ _) rfl ⟨_, _, rfl, by rw [hz]; exact H4.out.tab, H4.out.bel⟩
 ·have hc1 : ¬ (i : Int) < (a.length : Int) - 1 := by omega
  have hz := Aside0.mk (show layS a i v = trimN (a.set i v) by unfold layS; rw [if_neg hlast])
  obtain ⟨a2, ha2⟩ : ∃ y, y = a.set i v := ⟨_, rfl⟩
  rw [← ha2] at hz H4 hls
  rw [← hls] at H4 t0
  go_wp2_with fail
  go_loopw [] (fun wr => ∃ n, n ≤ a2.length ∧ Aside0 (GrI base p ok w wr vq vg' (.slice (some ⟨ga, 0, none⟩) n ca) (a2.take n) q (g ++ refsL [x])) ∧ Aside0 (trimN (a2.take n) = trimN a2)) (fun wr => lenAt0 wr p)
  case atStart => exact ⟨a2.length, Nat.le_refl _, by rw [List.take_length]; exact H4, Aside0.mk (by rw [List.take_length])⟩
  case round =>
   clear H4 t0
   obtain ⟨n, hn, HI, HE⟩ := hrel
   have HC := Aside0.mk (Kd.R_reads' HI.out.tab.ra).2
   have t0 : wr.cell? ⟨p, 0, none⟩ = some (.slice (some ⟨ga, 0, none⟩) n ca) := (blk_cell HI.out.tab.cell 0).trans rfl
   have hln : (a2.take n).length = n := by rw [List.length_take]; omega
   by_cases hz0 : n = 0
   ·have hf := Aside0.mk (show layS a i v = a2.take n by rw [hz.out, ← HE.out, hz0]; rfl)
    subst hz0
    go_wp2_with fail
    go_region
    go_wp2_with fail
    have HF := Aside0.mk (GrI.below HI.out (below_drew (Below.refl wr.heap.size wr)))
    exact bodyPost_end (results_none rfl _ _ _) rfl ⟨_, _, rfl, by rw [hf.out]; exact HF.out.tab, HF.out.bel⟩
   ·have hn0 : 0 < n := by omega
    have hn1 : (0 : Int) < (n : Int) := by omega
    have hcap : n ≤ ca := HC.out.1
    obtain ⟨ad, hA, c0, c1⟩ := at_T24 HC.out.2 ((n : Int) - 1) (by omega) (by rw [hln]; omega)
    injection hA with hA
    subst hA
    rw [show ((n : Int) - 1).toNat = n - 1 by omega] at c0 c1
    simp only [Addr.add_lit, Nat.zero_add] at c0 c1
    obtain ⟨y, hy⟩ : ∃ y, rd_T24 (a2.take n) ((n : Int) - 1) = y := ⟨_, rfl⟩
    rw [hy] at c0 c1
    have i0 : (0 : Int) ≤ (n : Int) - 1 := by omega
    have i1 : (n : Int) - 1 < (n : Int) := by omega
    have i2 : ((n : Int) - 1).toNat = n - 1 := by omega
    have hz' : decide (0 < (n : Int)) = true := decide_eq_true hn1
    go_wp2_with fail
    have i3 : (1 : Int) ≤ (n : Int) := by omega
    have i4 : (1 : Nat) ≤ n := by omega
    have iw : IntKind.i64.wrap ((n : Int) - 1) = (n : Int) - 1 := by first | exact wrap_i64 _ (by omega) (by omega) | (simp [IntKind.wrap, IntKind.signed, IntKind.bits]; omega)
    refine wp_region_still_tail 19 (by kernel_rfl) (by kernel_rfl) ?_
    simp only [List.take_succ_cons, List.take_zero, List.drop_succ_cons, List.drop_zero]
    iterate 19 (refine wpStill_step (fun K hK => ?_); go_simp; refine hK _ ?_; clear hK K)
    refine wpStill_nil ?_
    change wpList _ _ _ _ _ wr.drew
    go_wp2_with fail
    have HW := Aside0.mk (GrI.below HI.out (below_drew (Below.refl wr.heap.size wr)))
    refine (null_any y _).mono ?_
    rintro e w9 ⟨rfl, hb9⟩
    have H9 := Aside0.mk (GrI.below HW.out hb9)
    clear hb9 HW HI HC c0 c1
    have hsn := take_last hn0 hn hy
    have t9 : w9.cell? ⟨p, 0, none⟩ = some (.slice (some ⟨ga, 0, none⟩) n ca) := (blk_cell H9.out.tab.cell 0).trans rfl
    have f9 : w9.frozen? ⟨p, 0, none⟩ = false := blk_frozen H9.out.tab.cell 0
    cases hnb : nullB y with
    | false =>
     have hf := Aside0.mk (show layS a i v = a2.take n by rw [hz.out, ← HE.out, hsn, trimN_snoc, if_neg (by rw [hnb]; decide)])
     clear hz hsn HE
     go_wp2_with fail
     exact bodyPost_end (results_none rfl _ _ _) rfl ⟨_, _, rfl, by rw [hf.out]; exact H9.out.tab, H9.out.bel⟩
    | true =>
     have hf := Aside0.mk (show trimN (a2.take (n - 1)) = trimN a2 by rw [← HE.out, hsn, trimN_snoc, if_pos hnb])
     clear hsn HE
     have k1 : (n : Int) - 1 ≤ (ca : Int) := by omega
     have k2 : ¬ ca = n - 1 := by omega
     go_wp2_with fail
     have k3 : (n : Int) ≤ (ca : Int) := by omega
     go_region
     have HS : Aside0 (GrI base p ok w (w9.setCell ⟨p, 0, none⟩ (.slice (some ⟨ga, 0, none⟩) (n - 1) ca)).drew vq vg' (.slice (some ⟨ga, 0, none⟩) (n - 1) ca) (a2.take (n - 1)) q (g ++ refsL [x])) := by
      refine Aside0.mk (GrI.below ⟨Tab.seta H9.out.tab (by simp [Value.ownBlock]) ?_, H9.out.bel.setCell H9.out.tab.pb _⟩ (below_drew (Below.refl _ _)))
      have hk := Kd.R_take H9.out.tab.ra (m := n - 1) (by rw [hln]; omega)
      rw [List.take_take, Nat.min_eq_left (by omega)] at hk
      exact hk
     obtain ⟨w10, hw10⟩ : ∃ y, y = (w9.setCell ⟨p, 0, none⟩ (.slice (some ⟨ga, 0, none⟩) (n - 1) ca)).drew := ⟨_, rfl⟩
     rw [← hw10] at HS ⊢
     clear hw10 t9 f9 H9
     have t10 : w10.cell? ⟨p, 0, none⟩ = some (.slice (some ⟨ga, 0, none⟩) (n - 1) ca) := (blk_cell HS.out.tab.cell 0).trans rfl
     go_wp2_with fail
     go_roundw
     case rel => exact ⟨n - 1, by omega, HS, hf⟩
     case measure => simp only [lenAt0, t10, t0]; omega
end Go.Proofs.YtadhkfklkbdabaaR.G
end
