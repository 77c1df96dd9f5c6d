import Derived.Deep.RegionLaw
import Derived.Deep.Cut
import Derived.WalkSpells
import Derived.Maps.OwnOps
import Derived.Maps.OwnSet
import Derived.Maps.Views
import Derived.Maps.Own
import Derived.DeepKeys5
import Derived.Outline
import Derived.Deep.AppendLies
import Derived.Laws.CopyRow
import Derived.Laws.CopyOwn
import Derived.StillTailTactics
import Derived.Test.YtadhkfklkbdabaaRPPuD12
set_option linter.unusedVariables false
set_option linter.unusedSimpArgs false
section
namespace Go.Proofs.YtadhkfklkbdabaaR.G
open Go.RowKit Go.Proofs.YtadhkfklkbdabaaRW.PrintWords Go.Proofs.YtadhkfklkbdabaaRW.PrintLast Go.Proofs.YtadhkfklkbdabaaRW.PrintMore
set_option linter.unusedVariables false
set_option linter.unusedSimpArgs false
theorem R24_append_lies {ops : Array Oper} {o : Oper} {a : Act} {K : Act → World → Prop} {Q : Exit → Act → World → Prop} {E : Prop} {w : World} (hgd : o.guard = none) (s x : Operand)
  (ho : o.op = .call { callee := .builtin .append, args := #[s, x], argTypes := #[22, 22] })
  (base : Nat) (v : Value) (xs ys : List S24) (ok : Nat → Prop) (b : Nat) (hs : a.eval s = v) (hx : a.eval x = .slice (some ⟨b, 0, none⟩) ys.length ys.length) (hb : w.heap[b]? = some (.cells (flat24 ys).toArray 24 (0, 0)))
  (hy : 0 < ys.length) (hfresh : ∀ k, w.heap.size ≤ k → ok k) (HO : Kd.R k24 24 w base ok v xs) (hbase : base ≤ w.heap.size) (hlen : xs.length + ys.length ≤ maxLen) (hl : (xs.length + ys.length) * 16 ≤ 140737488355328)
  (h : ∀ v1 w1, Kd.R k24 24 w1 base ok v1 (xs ++ ys) → w.grownBy w1 v.ownBlock → (v1.ownBlock = v.ownBlock ∨ ∃ b, v1.ownBlock = some b ∧ w.heap.size ≤ b) → K (a.put o.dst v1) w1) :
  if Region.wanted o (yielded ops a.tmps) = true then Oper.wp Try.prog o a w K Q else E := by
 obtain ⟨i, hi, hzi⟩ := Option.map_eq_some_iff.1 info24
 simp only [Prod.mk.injEq] at hzi
 obtain ⟨z1, z2, z3⟩ := hzi
 refine step_append_lies w hgd s x 22 ho base 24 i _ 2 16 Try.underlying22 hi z1 z2 z3 rfl (by decide) v xs.length (flat24 xs) hs (R24_own HO) ⟨b, 0, none⟩ ys.length ys.length (flat24 ys) hx (flat24_len _) (World.news_of_block hb) (flat24_one _) hy hlen hl hbase w.heap.size rfl ?_
 intro g cap w1 hown1 hg hat hlt
 have hat' : (Value.slice (some ⟨g, 0, none⟩) (xs.length + ys.length) cap).ownBlock = v.ownBlock ∨ ∃ c, (Value.slice (some ⟨g, 0, none⟩) (xs.length + ys.length) cap).ownBlock = some c ∧ w.heap.size ≤ c := by
  rcases hat with e1 | e1
  ·left; rw [e1]; simp [Value.ownBlock]
  ·right; exact ⟨g, by simp [Value.ownBlock], by omega⟩
 refine h _ w1 (R24_mk (fun k hk => ?_) (by rw [List.length_append, flat24_append]; exact hown1)) hg hat'
 rcases hat' with e1 | ⟨c, e1, e2⟩
 ·exact HO.1 k (e1 ▸ hk)
 ·rw [e1] at hk; injection hk with hk; subst hk; exact hfresh _ e2
structure PtI (base p : Nat) (ok : Nat → Prop) (k v : S24) (w W : World) (vq vg va : Value) (a q g : List S24) : Prop where
 tab : Tab base p ok W va vq vg a q g
 bel : Below base w W
 kb : W.heap[w.heap.size]? = some (.cells #[.int .i64 k.f0, .int .i64 k.f1] 24 (0, 0))
 vb : W.heap[w.heap.size + 1]? = some (.cells #[.int .i64 v.f0, .int .i64 v.f1] 24 (0, 0))
 np : p < w.heap.size
 ng : ∀ b, w.heap.size ≤ b → b ≤ w.heap.size + 1 → some b ≠ vg.ownBlock ∧ some b ≠ vq.ownBlock
theorem PtI.below {base p : Nat} {ok : Nat → Prop} {k v : S24} {w W W' : World} {va vq vg : Value} {a q g : List S24} (h : PtI base p ok k v w W vq vg va a q g) (hb : Below W.heap.size W W') : PtI base p ok k v w W' vq vg va a q g :=
 ⟨h.tab.below hb, h.bel.trans (hb.mono h.tab.base_le), blk_below h.kb hb, blk_below h.vb hb, h.np, h.ng⟩
theorem PtI.start {base p : Nat} {ok : Nat → Prop} {k v : S24} {w : World} {va vq vg : Value} {a q g : List S24} (h : Tab base p ok w va vq vg a q g) : PtI base p ok k v w ((w.alloc (.cells #[.int .i64 k.f0, .int .i64 k.f1] 24)).alloc (.cells #[.int .i64 v.f0, .int .i64 v.f1] 24)) vq vg va a q g := by
 have hb := below_alloc (below_alloc (Below.refl w.heap.size w) (.cells #[.int .i64 k.f0, .int .i64 k.f1] 24)) (.cells #[.int .i64 v.f0, .int .i64 v.f1] 24)
 refine ⟨h.below hb, hb.mono h.base_le, blk_alloc (blk_new _ _) _, ?_, h.lt, fun b h1 _ => ⟨Kd.fresh' (Kd.R_lt h.rg) b h1, Kd.fresh' (Kd.R_lt h.rq) b h1⟩⟩
 have := blk_new (w.alloc (.cells #[.int .i64 k.f0, .int .i64 k.f1] 24)) (.cells #[.int .i64 v.f0, .int .i64 v.f1] 24)
 simpa using this
theorem PtI.leave {base p : Nat} {ok : Nat → Prop} {k v : S24} {w W : World} {va vq vg : Value} {a q g : List S24} (h : PtI base p ok k v w W vq vg va a q g) (hfresh : ∀ k, w.heap.size ≤ k → ok k) (l : List S24) (hl : l.length ≤ 10) (hg : g.length ≤ 100) (hsz : w.heap.size + 2 ≤ W.heap.size) :
  Calls Try.prog 53 #[.pointer (some ⟨p, 0, none⟩), .slice (some ⟨W.heap.size, 0, none⟩) l.length l.length] (W.alloc (.cells (flat24 l).toArray 24)) fun e w' => ∃ vg', e = .returned (.tuple #[]) ∧ Tab base p ok w' va vq vg' a q (g ++ refsL l) ∧ Below base w w' ∧ w'.heap[w.heap.size + 1]? = some (.cells #[.int .i64 v.f0, .int .i64 v.f1] 24 (0, 0)) := by
 have eo : (Value.slice (some ⟨W.heap.size, 0, none⟩) l.length l.length).ownBlock = some W.heap.size := own_ga _ _ _
 have hrow : (W.alloc (.cells (flat24 l).toArray 24)).heap[W.heap.size]? = some (.cells (flat24 l).toArray 24 (0, 0)) := blk_new W _
 have hbl := below_alloc (Below.refl W.heap.size W) (.cells (flat24 l).toArray 24)
 have HT2 := Tab.below (Tab.apart h.tab (n := W.heap.size) (Nat.le_refl _)) hbl
 refine (leave_any base p ok va vq vg a q g (some ⟨W.heap.size, 0, none⟩) l.length l _ (by rw [eo]; exact HT2)
  (R24_lit l hrow h.tab.base_le ⟨⟨hfresh _ (by omega), by have := h.tab.lt; omega⟩, Kd.fresh' (Kd.R_lt h.tab.ra) _ (Nat.le_refl _), Kd.fresh' (Kd.R_lt h.tab.rq) _ (Nat.le_refl _), Kd.fresh' (Kd.R_lt h.tab.rg) _ (Nat.le_refl _)⟩ (by simp [maxLen]; omega)) (fun k hk => hfresh k (by simp at hk; omega)) hl hg).mono ?_
 rintro e w3 ⟨vg', rfl, ht3, hb3, hfar⟩
 refine ⟨vg', rfl, ht3, (h.bel.trans (hbl.mono h.tab.base_le)).trans hb3, ?_⟩
 exact (hfar (w.heap.size + 1) (by simp; omega) (by have := h.np; omega) (h.ng _ (by omega) (by omega)).1).trans (blk_alloc h.vb _)
theorem Tab.setq_at {base p ga ca : Nat} {ok : Nat → Prop} {W : World} {va vg : Value} {a q g : List S24} (h : Tab base p ok W va (.slice (some ⟨ga, 0, none⟩) q.length ca) vg a q g) (i : Nat) (v : S24) :
  Tab base p ok ((W.setCell ⟨ga, i * 2, none⟩ (.int .i64 v.f0)).setCell ⟨ga, i * 2 + 1, none⟩ (.int .i64 v.f1)) va (.slice (some ⟨ga, 0, none⟩) q.length ca) vg a (q.set i v) g := by
 have hoth : ∀ k, k ≠ ga → ((W.setCell ⟨ga, i * 2, none⟩ (.int .i64 v.f0)).setCell ⟨ga, i * 2 + 1, none⟩ (.int .i64 v.f1)).heap[k]? = W.heap[k]? := fun k hk => by
  rw [RowKit.Below.heap_setCell _ _ _ _ (by simpa using hk), RowKit.Below.heap_setCell _ _ _ _ (by simpa using hk)]
 have hp : p ≠ ga := fun he => (h.rq.1 p (by rw [own_ga, he])).1.2 rfl
 exact ⟨(hoth p hp).trans h.cell, h.pb, Kd.R_step h.ra (fun k hk _ => hoth k (fun he => hk.2.1 (by rw [own_ga, he]))), R24_set h.rq i v, Kd.R_step h.rg (fun k hk _ => hoth k (fun he => hk.2.2 (by rw [own_ga, he])))⟩
theorem Tab.freshq {base p : Nat} {ok : Nat → Prop} {W : World} {va vq vg : Value} {a q g : List S24} (h : Tab base p ok W va vq vg a q g) (hok : ∀ k, W.heap.size ≤ k → ok k) : ∀ k, W.heap.size ≤ k → (ok k ∧ k ≠ p) ∧ some k ≠ va.ownBlock ∧ some k ≠ vg.ownBlock :=
 fun k hk => ⟨(h.fresh hok k hk).1, (h.fresh hok k hk).2.1, (h.fresh hok k hk).2.2.2⟩
theorem Tab.cellq {base p : Nat} {ok : Nat → Prop} {W w1 : World} {va vq vg : Value} {a q g : List S24} (h : Tab base p ok W va vq vg a q g) (hg : W.grownBy w1 vq.ownBlock) : w1.heap[p]? = some (.cells #[va, vq, vg] 60 (0, 0)) :=
 (hg.block p h.lt (fun he => (h.rq.1 p he.symm).1.2 rfl)).trans h.cell
theorem PtI.pushq {base p : Nat} {ok : Nat → Prop} {k v : S24} {w W w1 : World} {va vq vg v1 : Value} {a q g q1 : List S24} (h : PtI base p ok k v w W vq vg va a q g) (hr : Kd.R k24 24 w1 base (fun b => (ok b ∧ b ≠ p) ∧ some b ≠ va.ownBlock ∧ some b ≠ vg.ownBlock) v1 q1)
  (hg : W.grownBy w1 vq.ownBlock) (hat : v1.ownBlock = vq.ownBlock ∨ ∃ b, v1.ownBlock = some b ∧ W.heap.size ≤ b) : Tab base p ok (w1.setCell ⟨p, 1, none⟩ v1) va v1 vg a q1 g ∧ Below base w (w1.setCell ⟨p, 1, none⟩ v1) :=
 ⟨Tab.pushq h.tab hr hg hat, (h.bel.trans (Below.grown (Below.refl _ _) hg h.tab.base_le (Kd.R_base h.tab.rq))).setCell h.tab.pb _⟩
set_option maxHeartbeats 4000000 in
theorem put_any (base p : Nat) (ok : Nat → Prop) (vq vg : Value) (Aa : Option Addr) (ca : Nat) (a q g : List S24) (k v : S24) (w : World) (ht : Tab base p ok w (.slice Aa a.length ca) vq vg a q g) (hfresh : ∀ k, w.heap.size ≤ k → ok k) (hev : q.length % 2 = 0) (hla : a.length ≤ 1000000) (hlq : q.length ≤ 1000000) (hg : g.length ≤ 80) :
  Calls Try.prog 34 #[.pointer (some ⟨p, 0, none⟩), .agg #[.int .i64 k.f0, .int .i64 k.f1], .agg #[.int .i64 v.f0, .int .i64 v.f1]] w fun e w' => ∃ va' vq' vg', e = .returned (.tuple #[]) ∧ Tab base p ok w' va' vq' vg' (changeS a q k v).1 (changeS a q k v).2.1 (g ++ (changeS a q k v).2.2) ∧ Below base w w' := by
 obtain ⟨Aq, cq, rfl⟩ := Kd.R_slice ht.rq
 have HT := Aside0.mk (PtI.start (k := k) (v := v) ht)
 have HFR := Aside0.mk hfresh
 clear ht hfresh
 go_enter Try.func34, Try.ntmps34
 go_wp2_with fail
 obtain ⟨w1, hw1⟩ : ∃ x, x = (w.alloc (.cells #[.int .i64 k.f0, .int .i64 k.f1] 24)).alloc (.cells #[.int .i64 v.f0, .int .i64 v.f1] 24) := ⟨_, rfl⟩
 have hs1 : w.heap.size ≤ w1.heap.size := by rw [hw1]; simp; omega
 rw [← hw1] at HT
 try rw [← hw1]
 clear hw1
 have t0 : w1.cell? ⟨p, 0, none⟩ = some (.slice Aa a.length ca) := (blk_cell HT.out.tab.cell 0).trans rfl
 have b0 : w1.cell? ⟨w.heap.size, 0, none⟩ = some (.int .i64 k.f0) := (blk_cell HT.out.kb 0).trans rfl
 have b1 : w1.cell? ⟨w.heap.size, 1, none⟩ = some (.int .i64 k.f1) := (blk_cell HT.out.kb 1).trans rfl
 refine wp_region_still_tail 6 (by kernel_rfl) (by kernel_rfl) ?_
 simp only [List.take_succ_cons, List.take_zero, List.drop_succ_cons, List.drop_zero]
 iterate 6 (refine wpStill_step (fun K hK => ?_); go_simp; refine hK _ ?_; clear hK K)
 refine wpStill_nil ?_
 change wpList _ _ _ _ _ w1.drew
 have H2 := Aside0.mk (PtI.below HT.out (below_drew (Below.refl w1.heap.size w1)))
 have hs2 : w.heap.size ≤ w1.drew.heap.size := hs1
 clear HT t0 b0 b1 hs1
 obtain ⟨w2, hw2⟩ : ∃ x, x = w1.drew := ⟨_, rfl⟩
 rw [← hw2] at H2 hs2 ⊢
 clear hw2
 go_wp2_with fail
 refine (placed_any k a.length w2).mono ?_
 rintro e w3 ⟨rfl, hb3⟩
 have H3 := Aside0.mk (PtI.below H2.out hb3)
 have hs3 : w.heap.size ≤ w3.heap.size := Nat.le_trans hs2 hb3.size
 clear hb3 H2 hs2
 have b0 : w3.cell? ⟨w.heap.size, 0, none⟩ = some (.int .i64 k.f0) := (blk_cell H3.out.kb 0).trans rfl
 have b1 : w3.cell? ⟨w.heap.size, 1, none⟩ = some (.int .i64 k.f1) := (blk_cell H3.out.kb 1).trans rfl
 have v0 : w3.cell? ⟨w.heap.size + 1, 0, none⟩ = some (.int .i64 v.f0) := (blk_cell H3.out.vb 0).trans rfl
 have v1 : w3.cell? ⟨w.heap.size + 1, 1, none⟩ = some (.int .i64 v.f1) := (blk_cell H3.out.vb 1).trans rfl
 cases hpl : placedB k a.length with
 | true =>
  obtain ⟨h1, h2⟩ := placed_bd hpl
  have hk1 : k.f1 ≤ 1000000 := by omega
  go_wp2_with fail
  have hi := Aside0.mk (show k.f1 - 1 = (((k.f1 - 1).toNat : Nat) : Int) by omega)
  have hch : changeS a q k v = (layS a (k.f1 - 1).toNat v, q, refsL [rd_T24 a (k.f1 - 1)]) := by unfold changeS; rw [if_pos hpl]
  rw [hi.out]
  have HC := lay_any base p ok (.slice Aq q.length cq) vg Aa ca a q g (k.f1 - 1).toNat v w3 H3.out.tab (fun b hb => HFR.out b (Nat.le_trans hs3 hb)) (by omega) hla (by omega)
  refine HC.mono ?_
  rintro e w4 ⟨va', vg', rfl, ht4, hb4⟩
  go_wp2_with fail
  exact bodyPost_ret (results_none rfl _ _ _) rfl ⟨_, _, _, rfl, by rw [hch, hi.out]; simpa using ht4, H3.out.bel.trans hb4⟩
 | false =>
  go_wp2_with fail
  refine (find_any p _ _ Aq cq q k w3 H3.out.tab.cell (Kd.R_reads' H3.out.tab.rq).2.2 hev (by omega)).mono ?_
  rintro e w4 ⟨rfl, hb4⟩
  have H4 := Aside0.mk (PtI.below H3.out hb4)
  have hs4 : w.heap.size ≤ w4.heap.size := Nat.le_trans hs3 hb4.size
  clear hb4 H3 hs3 b0 b1 v0 v1
  have b0 : w4.cell? ⟨w.heap.size, 0, none⟩ = some (.int .i64 k.f0) := (blk_cell H4.out.kb 0).trans rfl
  have b1 : w4.cell? ⟨w.heap.size, 1, none⟩ = some (.int .i64 k.f1) := (blk_cell H4.out.kb 1).trans rfl
  have v0 : w4.cell? ⟨w.heap.size + 1, 0, none⟩ = some (.int .i64 v.f0) := (blk_cell H4.out.vb 0).trans rfl
  have v1 : w4.cell? ⟨w.heap.size + 1, 1, none⟩ = some (.int .i64 v.f1) := (blk_cell H4.out.vb 1).trans rfl
  have hnp : ¬ placedB k a.length = true := by rw [hpl]; decide
  cases hix : idxP k q 0 with
  | some i =>
   have hb := (idxP_bound _ _ q 0 i (Nat.le_refl _) hix).2
   rw [Nat.zero_add] at hb
   have hz : idxI k q = (i : Int) := by unfold idxI; rw [hix]
   rw [hz]
   have hd : decide ((i : Int) ≥ 0) = true := decide_eq_true (by omega)
   have hd' : decide ((0 : Int) ≤ (i : Int)) = true := decide_eq_true (by omega)
   have hix := Aside0.mk hix
   clear hz
   go_wp2_with fail
   refine (null_any v w4).mono ?_
   rintro e w5 ⟨rfl, hb5⟩
   have H5 := Aside0.mk (PtI.below H4.out hb5)
   have hs5 : w.heap.size + 2 ≤ w5.heap.size := by
    have e1 : w.heap.size + 1 < w5.heap.size := blk_lt H5.out.vb
    omega
   clear hb5 H4 hs4 b0 b1 v0 v1
   obtain ⟨ga, cur, hga, hgh, hgb⟩ := R_ga H5.out.tab.rq (by omega)
   subst hga
   have b0 : w5.cell? ⟨w.heap.size, 0, none⟩ = some (.int .i64 k.f0) := (blk_cell H5.out.kb 0).trans rfl
   have b1 : w5.cell? ⟨w.heap.size, 1, none⟩ = some (.int .i64 k.f1) := (blk_cell H5.out.kb 1).trans rfl
   have v0 : w5.cell? ⟨w.heap.size + 1, 0, none⟩ = some (.int .i64 v.f0) := (blk_cell H5.out.vb 0).trans rfl
   have v1 : w5.cell? ⟨w.heap.size + 1, 1, none⟩ = some (.int .i64 v.f1) := (blk_cell H5.out.vb 1).trans rfl
   have t1 : w5.cell? ⟨p, 1, none⟩ = some (.slice (some ⟨ga, 0, none⟩) q.length cq) := (blk_cell H5.out.tab.cell 1).trans rfl
   have HC := Aside0.mk (Kd.R_reads' H5.out.tab.rq).2.2
   obtain ⟨ad, hA, c0, c1⟩ := at_T24 HC.out ((i : Int) + 1) (by omega) (by omega)
   injection hA with hA
   subst hA
   obtain ⟨ad, hA, d0, d1⟩ := at_T24 HC.out (i : Int) (by omega) (by omega)
   injection hA with hA
   subst hA
   rw [show ((i : Int) + 1).toNat = i + 1 by omega] at c0 c1
   simp only [Int.toNat_natCast, Addr.add_lit, Nat.zero_add] at c0 c1 d0 d1
   obtain ⟨x, hx⟩ : ∃ y, rd_T24 q ((i : Int) + 1) = y := ⟨_, rfl⟩
   obtain ⟨y, hy⟩ : ∃ y, rd_T24 q (i : Int) = y := ⟨_, rfl⟩
   rw [hx] at c0 c1
   rw [hy] at d0 d1
   have i0 : (0 : Int) ≤ (i : Int) + 1 := by omega
   have i1 : (i : Int) + 1 < (q.length : Int) := by omega
   have i2 : (i : Int) < (q.length : Int) := by omega
   have i3 : ((i : Int) + 1).toNat = i + 1 := by omega
   have iw : IntKind.i64.wrap ((i : Int) + 1) = (i : Int) + 1 := by first | exact wrap_i64 _ (by omega) (by omega) | (simp [IntKind.wrap, IntKind.signed, IntKind.bits]; omega)
   cases hnb : nullB v with
   | true =>
    have hch := Aside0.mk (show changeS a q k v = (a, takeP q i, refsL [x, y, k]) by unfold changeS; rw [if_neg hnp, hix.out]; simp only [hnb, if_true]; rw [hx, hy])
    clear hx hy
    go_wp2_with fail
    have H6 := Aside0.mk (PtI.below H5.out (below_drew (Below.refl w5.heap.size w5)))
    have hs6 : w.heap.size + 2 ≤ w5.drew.heap.size := hs5
    clear H5 HC hgh hs5
    go_region_law (go_simp; go_at_call 53; refine (PtI.leave H6.out HFR.out [x, y, k] (by simp) (by omega) hs6).mono ?_; rintro e w7 ⟨vg', rfl, ht7, hb7, hv7⟩; have H7 := Aside0.mk ht7; have HB7 := Aside0.mk hb7; clear ht7 hb7)
    all_goals
     clear H6 hs6 t1 b0 b1 v0 v1 c0 c1 d0 d1
     go_wp2_with fail
     refine (take_any base p ok _ vg' (some ⟨ga, 0, none⟩) cq a q _ i w7 H7.out hb (by omega)).mono ?_
     rintro e w8 ⟨vq', rfl, ht8, hb8⟩
     go_wp2_with fail
     exact bodyPost_end (results_none rfl _ _ _) rfl ⟨_, _, _, rfl, by rw [hch.out]; exact ht8, HB7.out.trans hb8⟩
   | false =>
    have hch := Aside0.mk (show changeS a q k v = (a, q.set (i + 1) v, refsL [x, k]) by unfold changeS; rw [if_neg hnp, hix.out]; simp only [hnb]; rw [hx]; rfl)
    clear hx hy
    go_wp2_with fail
    have H6 := Aside0.mk (PtI.below H5.out (below_drew (Below.refl w5.heap.size w5)))
    have hs6 : w.heap.size + 2 ≤ w5.drew.heap.size := hs5
    clear H5 HC hgh hs5
    go_region_law (go_simp; go_at_call 53; refine (PtI.leave H6.out HFR.out [x, k] (by simp) (by omega) hs6).mono ?_; rintro e w7 ⟨vg', rfl, ht7, hb7, hv7⟩; have H7 := Aside0.mk ht7; have HB7 := Aside0.mk hb7; clear ht7 hb7)
    all_goals
     clear H6 hs6 t1 b0 b1 v0 v1 c0 c1 d0 d1
     have v0 : w7.cell? ⟨w.heap.size + 1, 0, none⟩ = some (.int .i64 v.f0) := (blk_cell hv7 0).trans rfl
     have v1 : w7.cell? ⟨w.heap.size + 1, 1, none⟩ = some (.int .i64 v.f1) := (blk_cell hv7 1).trans rfl
     have t1 : w7.cell? ⟨p, 1, none⟩ = some (.slice (some ⟨ga, 0, none⟩) q.length cq) := (blk_cell H7.out.cell 1).trans rfl
     obtain ⟨gb, cur7, hga7, hgh7, hgb7⟩ := R_ga H7.out.rq (by omega)
     injection hga7 with hga7
     injection hga7 with hga7
     subst hga7
     have z0 : w7.frozen? ⟨ga, (i + 1) * 2, none⟩ = false := blk_frozen hgh7 _
     have z1 : w7.frozen? ⟨ga, (i + 1) * 2 + 1, none⟩ = false := blk_frozen hgh7 _
     obtain ⟨ad, hA, c0, c1⟩ := at_T24 (Kd.R_reads' H7.out.rq).2.2 ((i : Int) + 1) (by omega) (by omega)
     injection hA with hA
     subst hA
     rw [i3] at c0 c1
     simp only [Addr.add_lit, Nat.zero_add] at c0 c1
     go_wp2_with fail
     go_region
     go_wp2_with fail
     exact bodyPost_end (results_none rfl _ _ _) rfl ⟨_, _, _, rfl, by rw [hch.out]; exact (Tab.setq_at H7.out (i + 1) v).below (below_drew (Below.refl _ _)), below_drew ((HB7.out.setCell hgb7 _).setCell hgb7 _)⟩
  | none =>
   have hz : idxI k q = -1 := by unfold idxI; rw [hix]
   rw [hz]
   clear hz
   go_wp2_with fail
   refine (null_any v w4).mono ?_
   rintro e w5 ⟨rfl, hb5⟩
   have H5 := Aside0.mk (PtI.below H4.out hb5)
   have hs5 : w.heap.size + 2 ≤ w5.heap.size := by
    have e1 : w.heap.size + 1 < w5.heap.size := blk_lt H5.out.vb
    omega
   clear hb5 H4 hs4 b0 b1 v0 v1
   have b0 : w5.cell? ⟨w.heap.size, 0, none⟩ = some (.int .i64 k.f0) := (blk_cell H5.out.kb 0).trans rfl
   have b1 : w5.cell? ⟨w.heap.size, 1, none⟩ = some (.int .i64 k.f1) := (blk_cell H5.out.kb 1).trans rfl
   have v0 : w5.cell? ⟨w.heap.size + 1, 0, none⟩ = some (.int .i64 v.f0) := (blk_cell H5.out.vb 0).trans rfl
   have v1 : w5.cell? ⟨w.heap.size + 1, 1, none⟩ = some (.int .i64 v.f1) := (blk_cell H5.out.vb 1).trans rfl
   have t0 : w5.cell? ⟨p, 0, none⟩ = some (.slice Aa a.length ca) := (blk_cell H5.out.tab.cell 0).trans rfl
   have iw : IntKind.i64.wrap ((a.length : Int) + 1) = (a.length : Int) + 1 := by first | exact wrap_i64 _ (by omega) (by omega) | (simp [IntKind.wrap, IntKind.signed, IntKind.bits]; omega)
   cases hnb : nullB v with
   | true =>
    have hch := Aside0.mk (show changeS a q k v = (a, q, refsL [k]) by unfold changeS; rw [if_neg hnp, hix]; simp only [hnb, if_true])
    clear hix
    go_wp2_with fail
    refine (PtI.leave H5.out HFR.out [k] (by simp) (by omega) hs5).mono ?_
    rintro e w7 ⟨vg', rfl, ht7, hb7, _⟩
    go_wp2_with fail
    exact bodyPost_end (results_none rfl _ _ _) rfl ⟨_, _, _, rfl, by rw [hch.out]; exact ht7, hb7⟩
   | false =>
    have hch := Aside0.mk (show changeS a q k v = if placedB k ((a.length : Int) + 1) = true then ((growS (q.length + 1) (a ++ [v]) q).1, (growS (q.length + 1) (a ++ [v]) q).2, []) else (a, q ++ [k, v], []) by unfold changeS; rw [if_neg hnp, hix]; simp only [hnb]; rfl)
    clear hix
    go_wp2_with fail
    refine wp_region_still_tail 7 (by kernel_rfl) (by kernel_rfl) ?_
    simp only [List.take_succ_cons, List.take_zero, List.drop_succ_cons, List.drop_zero]
    iterate 7 (refine wpStill_step (fun K hK => ?_); go_simp; refine hK _ ?_; clear hK K)
    refine wpStill_nil ?_
    change wpList _ _ _ _ _ w5.drew
    have H6 := Aside0.mk (PtI.below H5.out (below_drew (Below.refl w5.heap.size w5)))
    have hs6 : w.heap.size + 2 ≤ w5.drew.heap.size := hs5
    clear H5 t0 b0 b1 v0 v1 hs5
    obtain ⟨w6, hw6⟩ : ∃ x, x = w5.drew := ⟨_, rfl⟩
    rw [← hw6] at H6 hs6 ⊢
    clear hw6
    go_wp2_with fail
    refine (placed_any k ((a.length : Int) + 1) w6).mono ?_
    rintro e w7 ⟨rfl, hb7⟩
    have H7 := Aside0.mk (PtI.below H6.out hb7)
    have hs7 : w.heap.size + 2 ≤ w7.heap.size := Nat.le_trans hs6 hb7.size
    clear hb7 H6 hs6
    have b0 : w7.cell? ⟨w.heap.size, 0, none⟩ = some (.int .i64 k.f0) := (blk_cell H7.out.kb 0).trans rfl
    have b1 : w7.cell? ⟨w.heap.size, 1, none⟩ = some (.int .i64 k.f1) := (blk_cell H7.out.kb 1).trans rfl
    have v0 : w7.cell? ⟨w.heap.size + 1, 0, none⟩ = some (.int .i64 v.f0) := (blk_cell H7.out.vb 0).trans rfl
    have v1 : w7.cell? ⟨w.heap.size + 1, 1, none⟩ = some (.int .i64 v.f1) := (blk_cell H7.out.vb 1).trans rfl
    cases hpl2 : placedB k ((a.length : Int) + 1) with
    | true =>
     rw [if_pos hpl2] at hch
     go_wp2_with fail
     refine (grow_any base p ok vg Aa ca _ a q g v w7 H7.out.tab (fun b hb => HFR.out b (by omega)) hev hla hlq).mono ?_
     rintro e w8 ⟨va', vq', rfl, ht8, hb8⟩
     go_wp2_with fail
     exact bodyPost_end (results_none rfl _ _ _) rfl ⟨_, _, _, rfl, by rw [hch.out]; simpa using ht8, H7.out.bel.trans hb8⟩
    | false =>
     rw [if_neg (by rw [hpl2]; decide)] at hch
     have t1 : w7.cell? ⟨p, 1, none⟩ = some (.slice Aq q.length cq) := (blk_cell H7.out.tab.cell 1).trans rfl
     have hs7' : w.heap.size ≤ w7.heap.size := by omega
     have t1a : ∀ o, (w7.alloc o).cell? ⟨p, 1, none⟩ = some (.slice Aq q.length cq) := fun o => (blk_cell (blk_alloc H7.out.tab.cell o) 1).trans rfl
     have t1b : ∀ o, (w7.drew.alloc o).cell? ⟨p, 1, none⟩ = some (.slice Aq q.length cq) := fun o => (blk_cell (blk_alloc (blk_drew H7.out.tab.cell) o) 1).trans rfl
     have f1 : w7.frozen? ⟨p, 1, none⟩ = false := blk_frozen H7.out.tab.cell 1
     go_wp2_with fail
     go_region_law
      (refine R24_append_lies rfl (.tmp 27) (.tmp 30) rfl base _ q [k, v] (fun b => (ok b ∧ b ≠ p) ∧ some b ≠ (Value.slice Aa a.length ca).ownBlock ∧ some b ≠ vg.ownBlock) _ (by simp [Act.eval]) (by simp [Act.eval]; rfl) (by first | exact blk_new _ _ | (apply blk_drew; exact blk_new _ _)) (by simp) ((PtI.below H7.out (by (repeat (first | exact Below.refl _ _ | apply below_drew | apply below_alloc)); done)).tab.freshq (fun k hk => HFR.out k (Nat.le_trans hs7' (Nat.le_trans (by simp) hk)))) (PtI.below H7.out (by (repeat (first | exact Below.refl _ _ | apply below_drew | apply below_alloc)); done)).tab.rq (PtI.below H7.out (by (repeat (first | exact Below.refl _ _ | apply below_drew | apply below_alloc)); done)).tab.base_le (by simp [maxLen]; omega) (by simp; omega) ?_; intro v10 w10 hr10 hg10 hat10; obtain ⟨A10, cp10, rfl⟩ := Kd.R_slice hr10; have HX := Aside0.mk (PtI.pushq (PtI.below H7.out (by (repeat (first | exact Below.refl _ _ | apply below_drew | apply below_alloc)); done)) hr10 hg10 hat10); have hc10 := Tab.cellq (PtI.below H7.out (by (repeat (first | exact Below.refl _ _ | apply below_drew | apply below_alloc)); done)).tab hg10; have t10 : w10.cell? ⟨p, 1, none⟩ = some (.slice Aq q.length cq) := (blk_cell hc10 1).trans rfl; have f10 : w10.frozen? ⟨p, 1, none⟩ = false := blk_frozen hc10 1; clear hr10 hg10 hat10 hc10)
     all_goals
      go_wp2_with fail
      rw [show (q ++ [k, v]).length = q.length + 2 by simp] at HX
      exact bodyPost_end (results_none rfl _ _ _) rfl ⟨_, _, _, rfl, by rw [hch.out]; simpa using HX.out.1, HX.out.2⟩
end Go.Proofs.YtadhkfklkbdabaaR.G
end
