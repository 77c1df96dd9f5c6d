import Derived.Deep.RegionLaw
import Derived.Deep.Cut
import Derived.WalkSpells
import Derived.Maps.OwnOps
import Derived.Maps.OwnSet
import Derived.Maps.Views
import Derived.Maps.Own
import Derived.DeepKeys5
import Derived.Outline
import Derived.Deep.AppendLies
import Derived.Laws.CopyRow
import Derived.Laws.CopyOwn
import Derived.StillTailTactics
import Derived.Test.YtadhkfklkbdabaaRPPuD9
set_option linter.unusedVariables false
set_option linter.unusedSimpArgs false
section
namespace Go.Proofs.YtadhkfklkbdabaaR.G
open Go.RowKit Go.Proofs.YtadhkfklkbdabaaRW.PrintWords Go.Proofs.YtadhkfklkbdabaaRW.PrintLast Go.Proofs.YtadhkfklkbdabaaRW.PrintMore
set_option linter.unusedVariables false
set_option linter.unusedSimpArgs false
theorem Tab.pusha {base p : Nat} {ok : Nat → Prop} {W w1 : World} {va vq vg v1 : Value} {a q g a1 : List S24} (h : Tab base p ok W va vq vg a q g) (hr : Kd.R k24 24 w1 base (fun b => (ok b ∧ b ≠ p) ∧ some b ≠ vq.ownBlock ∧ some b ≠ vg.ownBlock) v1 a1)
  (hg : W.grownBy w1 va.ownBlock) (hat : v1.ownBlock = va.ownBlock ∨ ∃ b, v1.ownBlock = some b ∧ W.heap.size ≤ b) : Tab base p ok (w1.setCell ⟨p, 0, none⟩ v1) v1 vq vg a1 q g := by
 have hp : some p ≠ va.ownBlock := fun he => (h.ra.1 p he.symm).1.2 rfl
 refine ⟨blk_put ((hg.block p h.lt hp).trans h.cell) 0 _ rfl, h.pb, ?_, ?_, ?_⟩
 ·exact Kd.R_far (p := ⟨p, 0, none⟩) hr (fun _ hk => hk.1.2) _
 ·refine Kd.R_far (p := ⟨p, 0, none⟩) (Kd.R_mono (Kd.R_after (ok := fun b => (ok b ∧ b ≠ p) ∧ some b ≠ vg.ownBlock) (v1 := v1) (Kd.R_mono h.rq fun _ hk => ⟨⟨hk.1, hk.2.2⟩, hk.2.1⟩) hg hat) fun _ hk => ⟨hk.1.1, hk.2, hk.1.2⟩) (fun _ hk => hk.1.2) _
 ·refine Kd.R_far (p := ⟨p, 0, none⟩) (Kd.R_mono (Kd.R_after (ok := fun b => (ok b ∧ b ≠ p) ∧ some b ≠ vq.ownBlock) (v1 := v1) (Kd.R_mono h.rg fun _ hk => ⟨⟨hk.1, hk.2.2⟩, hk.2.1⟩) hg hat) fun _ hk => ⟨hk.1.1, hk.2, hk.1.2⟩) (fun _ hk => hk.1.2) _
theorem Tab.pushq {base p : Nat} {ok : Nat → Prop} {W w1 : World} {va vq vg v1 : Value} {a q g q1 : List S24} (h : Tab base p ok W va vq vg a q g) (hr : Kd.R k24 24 w1 base (fun b => (ok b ∧ b ≠ p) ∧ some b ≠ va.ownBlock ∧ some b ≠ vg.ownBlock) v1 q1)
  (hg : W.grownBy w1 vq.ownBlock) (hat : v1.ownBlock = vq.ownBlock ∨ ∃ b, v1.ownBlock = some b ∧ W.heap.size ≤ b) : Tab base p ok (w1.setCell ⟨p, 1, none⟩ v1) va v1 vg a q1 g := by
 have hp : some p ≠ vq.ownBlock := fun he => (h.rq.1 p he.symm).1.2 rfl
 refine ⟨blk_put ((hg.block p h.lt hp).trans h.cell) 1 _ rfl, h.pb, ?_, ?_, ?_⟩
 ·refine Kd.R_far (p := ⟨p, 1, none⟩) (Kd.R_mono (Kd.R_after (ok := fun b => (ok b ∧ b ≠ p) ∧ some b ≠ vg.ownBlock) (v1 := v1) (Kd.R_mono h.ra fun _ hk => ⟨⟨hk.1, hk.2.2⟩, hk.2.1⟩) hg hat) fun _ hk => ⟨hk.1.1, hk.2, hk.1.2⟩) (fun _ hk => hk.1.2) _
 ·exact Kd.R_far (p := ⟨p, 1, none⟩) hr (fun _ hk => hk.1.2) _
 ·refine Kd.R_far (p := ⟨p, 1, none⟩) (Kd.R_mono (Kd.R_after (ok := fun b => (ok b ∧ b ≠ p) ∧ some b ≠ va.ownBlock) (v1 := v1) (Kd.R_mono h.rg fun _ hk => ⟨⟨hk.1, hk.2.1⟩, hk.2.2⟩) hg hat) fun _ hk => ⟨hk.1.1, hk.1.2, hk.2⟩) (fun _ hk => hk.1.2) _
theorem Tab.seta {base p : Nat} {ok : Nat → Prop} {W : World} {va va' vq vg : Value} {a a' q g : List S24} (h : Tab base p ok W va vq vg a q g) (hown : va'.ownBlock = va.ownBlock) (hr : Kd.R k24 24 W base (fun b => (ok b ∧ b ≠ p) ∧ some b ≠ vq.ownBlock ∧ some b ≠ vg.ownBlock) va' a') : Tab base p ok (W.setCell ⟨p, 0, none⟩ va') va' vq vg a' q g := by
 refine ⟨blk_put h.cell 0 _ rfl, h.pb, ?_, ?_, ?_⟩
 ·exact Kd.R_far (p := ⟨p, 0, none⟩) hr (fun _ hk => hk.1.2) _
 ·rw [hown]; exact Kd.R_far (p := ⟨p, 0, none⟩) h.rq (fun _ hk => hk.1.2) _
 ·rw [hown]; exact Kd.R_far (p := ⟨p, 0, none⟩) h.rg (fun _ hk => hk.1.2) _
structure GrI (base p : Nat) (ok : Nat → Prop) (w W : World) (vq vg : Value) (va : Value) (a q g : List S24) : Prop where
 tab : Tab base p ok W va vq vg a q g
 bel : Below base w W
theorem GrI.below {base p : Nat} {ok : Nat → Prop} {w W W' : World} {va vq vg : Value} {a q g : List S24} (h : GrI base p ok w W vq vg va a q g) (hb : Below W.heap.size W W') : GrI base p ok w W' vq vg va a q g :=
 ⟨h.tab.below hb, h.bel.trans (hb.mono h.tab.base_le)⟩
theorem GrI.next {base p : Nat} {ok : Nat → Prop} {w W w1 : World} {va vq vg v1 : Value} {a q g a1 : List S24} (h : GrI base p ok w W vq vg va a q g) (hr : Kd.R k24 24 w1 base (fun b => (ok b ∧ b ≠ p) ∧ some b ≠ vq.ownBlock ∧ some b ≠ vg.ownBlock) v1 a1)
  (hg : W.grownBy w1 va.ownBlock) (hat : v1.ownBlock = va.ownBlock ∨ ∃ b, v1.ownBlock = some b ∧ W.heap.size ≤ b) : GrI base p ok w (w1.setCell ⟨p, 0, none⟩ v1) vq vg v1 a1 q g :=
 ⟨Tab.pusha h.tab hr hg hat, (h.bel.trans (Below.grown (Below.refl _ _) hg h.tab.base_le (Kd.R_base h.tab.ra))).setCell h.tab.pb _⟩
theorem Tab.cella {base p : Nat} {ok : Nat → Prop} {W w1 : World} {va vq vg : Value} {a q g : List S24} (h : Tab base p ok W va vq vg a q g) (hg : W.grownBy w1 va.ownBlock) : w1.heap[p]? = some (.cells #[va, vq, vg] 60 (0, 0)) :=
 (hg.block p h.lt (fun he => (h.ra.1 p he.symm).1.2 rfl)).trans h.cell
theorem Tab.fresha {base p : Nat} {ok : Nat → Prop} {W : World} {va vq vg : Value} {a q g : List S24} (h : Tab base p ok W va vq vg a q g) (hok : ∀ k, W.heap.size ≤ k → ok k) : ∀ k, W.heap.size ≤ k → (ok k ∧ k ≠ p) ∧ some k ≠ vq.ownBlock ∧ some k ≠ vg.ownBlock :=
 fun k hk => ⟨(h.fresh hok k hk).1, (h.fresh hok k hk).2.2⟩
theorem idxP_bound (k : S24) : ∀ (n : Nat) (q : List S24) (i j : Nat), q.length ≤ n → idxP k q i = some j → i ≤ j ∧ j + 2 ≤ i + q.length
 | n, [], i, j, _, h => by simp [idxP] at h
 | n, [_], i, j, _, h => by simp [idxP] at h
 | 0, _ :: _ :: _, i, j, hn, h => by simp at hn
 | n + 1, a :: b :: r, i, j, hn, h => by
  unfold idxP at h
  by_cases e : sameV a k = true
  ·rw [if_pos e] at h; injection h with h; subst h; simp
  ·rw [if_neg e] at h
   have := idxP_bound k n r (i + 2) j (by simp at hn; omega) h
   simp; omega
theorem takeP_len (q : List S24) (i : Nat) : (takeP q i).length = q.length - 2 := by unfold takeP; simp
theorem growS_fuel : ∀ (n m : Nat) (a q : List S24), q.length < n → q.length < m → growS n a q = growS m a q
 | 0, m, a, q, h, _ => by omega
 | n + 1, 0, a, q, _, h => by omega
 | n + 1, m + 1, a, q, h1, h2 => by
  unfold growS
  cases e : idxP ⟨3, (a.length : Int) + 1⟩ q 0 with
  | none => rfl
  | some i =>
   have := (idxP_bound _ _ q 0 i (Nat.le_refl _) e).2
   exact growS_fuel n m _ _ (by rw [takeP_len]; omega) (by rw [takeP_len]; omega)
theorem growS_next {a q : List S24} {i : Nat} (e : idxP ⟨3, (a.length : Int) + 1⟩ q 0 = some i) : growS (q.length + 1) a q = growS ((takeP q i).length + 1) (a ++ [rd_T24 q (i + 1)]) (takeP q i) := by
 have hb := (idxP_bound _ _ q 0 i (Nat.le_refl _) e).2
 rw [growS, e]
 exact growS_fuel _ _ _ _ (by rw [takeP_len]; omega) (by omega)
def lenAt (w : World) (p : Nat) : Nat := match w.cell? ⟨p, 1, none⟩ with | some (.slice _ n _) => n | _ => 0
set_option maxHeartbeats 2000000 in
theorem grow_any (base p : Nat) (ok : Nat → Prop) (vg : Value) (Aa : Option Addr) (ca : Nat) (vq : Value) (a q g : List S24) (v0 : S24) (w : World) (ht : Tab base p ok w (.slice Aa a.length ca) vq vg a q g) (hfresh : ∀ k, w.heap.size ≤ k → ok k) (hev : q.length % 2 = 0) (hla : a.length ≤ 1000000) (hl : q.length ≤ 1000000) :
  Calls Try.prog 55 #[.pointer (some ⟨p, 0, none⟩), .agg #[.int .i64 v0.f0, .int .i64 v0.f1]] w fun e w' => ∃ va' vq', e = .returned (.tuple #[]) ∧ Tab base p ok w' va' vq' vg (growS (q.length + 1) (a ++ [v0]) q).1 (growS (q.length + 1) (a ++ [v0]) q).2 g ∧ Below base w w' := by
 obtain ⟨Aq, cq, rfl⟩ := Kd.R_slice ht.rq
 have HT : Aside0 (GrI base p ok w (w.alloc (.cells #[.int .i64 v0.f0, .int .i64 v0.f1] 24)) (.slice Aq q.length cq) vg (.slice Aa a.length ca) a q g) := Aside0.mk (GrI.below ⟨ht, Below.refl _ _⟩ (below_alloc (Below.refl w.heap.size w) (.cells #[.int .i64 v0.f0, .int .i64 v0.f1] 24)))
 have HBX := Aside0.mk (blk_new w (.cells #[.int .i64 v0.f0, .int .i64 v0.f1] 24))
 have HFR := Aside0.mk hfresh
 clear ht hfresh
 go_enter Try.func55, Try.ntmps55
 go_wp2_with fail
 obtain ⟨w1, hw1⟩ : ∃ x, x = w.alloc (.cells #[.int .i64 v0.f0, .int .i64 v0.f1] 24) := ⟨_, rfl⟩
 have hs1 : w.heap.size ≤ w1.heap.size := by rw [hw1]; simp
 rw [← hw1] at HT HBX
 try rw [← hw1]
 clear hw1
 have x0 : w1.cell? ⟨w.heap.size, 0, none⟩ = some (.int .i64 v0.f0) := (blk_cell HBX.out 0).trans rfl
 have x1 : w1.cell? ⟨w.heap.size, 1, none⟩ = some (.int .i64 v0.f1) := (blk_cell HBX.out 1).trans rfl
 have t2 : w1.cell? ⟨p, 0, none⟩ = some (.slice Aa a.length ca) := (blk_cell HT.out.tab.cell 0).trans rfl
 have t2a : ∀ o, (w1.alloc o).cell? ⟨p, 0, none⟩ = some (.slice Aa a.length ca) := fun o => (blk_cell (blk_alloc HT.out.tab.cell o) 0).trans rfl
 have t2b : ∀ o, (w1.drew.alloc o).cell? ⟨p, 0, none⟩ = some (.slice Aa a.length ca) := fun o => (blk_cell (blk_alloc (blk_drew HT.out.tab.cell) o) 0).trans rfl
 have f2 : w1.frozen? ⟨p, 0, none⟩ = false := blk_frozen HT.out.tab.cell 0
 go_region_law
  (refine R_append_lies k24 rfl (.tmp 9) (.tmp 11) 22 24 (.agg #[(.int .i64 0), (.int .i64 0)]) 16 rfl Try.underlying22 info24 rfl (by decide) base _ a v0 [.int .i64 v0.f0, .int .i64 v0.f1] (fun b => (ok b ∧ b ≠ p) ∧ some b ≠ (Value.slice Aq q.length cq).ownBlock ∧ some b ≠ vg.ownBlock) (fun _ => False) _ (by simp [Act.eval]) (by simp [Act.eval]; rfl) (by first | exact blk_new _ _ | (apply blk_drew; exact blk_new _ _)) (k24_mkM _ _ _ v0) (fun _ h => h.elim) ((GrI.below HT.out (by (repeat (first | exact Below.refl _ _ | apply below_drew | apply below_alloc)); done)).tab.fresha (fun k hk => HFR.out k (Nat.le_trans hs1 (Nat.le_trans (by simp) hk)))) (GrI.below HT.out (by (repeat (first | exact Below.refl _ _ | apply below_drew | apply below_alloc)); done)).tab.ra (GrI.below HT.out (by (repeat (first | exact Below.refl _ _ | apply below_drew | apply below_alloc)); done)).tab.base_le (by simp [maxLen]; omega) (by omega) ?_; intro v10 w10 hr10 hg10 hat10; obtain ⟨A10, cp10, rfl⟩ := Kd.R_slice hr10; have hc10 := Tab.cella (GrI.below HT.out (by (repeat (first | exact Below.refl _ _ | apply below_drew | apply below_alloc)); done)).tab hg10; have t10 : w10.cell? ⟨p, 0, none⟩ = some (.slice Aa a.length ca) := (blk_cell hc10 0).trans rfl; have f10 : w10.frozen? ⟨p, 0, none⟩ = false := blk_frozen hc10 0; have HE := Aside0.mk (GrI.next (GrI.below HT.out (by (repeat (first | exact Below.refl _ _ | apply below_drew | apply below_alloc)); done)) hr10 hg10 hat10); have hs10 : w1.heap.size ≤ w10.heap.size := Nat.le_trans (by simp) hg10.size; clear hr10 hg10 hat10 hc10; rw [show (a ++ [v0]).length = a.length + 1 by simp] at HE)
 all_goals
  go_wp2_with fail
  clear t10 f10
  refine (dict_integer.calls _ _ _ _ rfl).mono ?_
  rintro e w2 ⟨rfl, hb2⟩
  have H2 := Aside0.mk (GrI.below HE.out hb2)
  clear hb2 HE
  go_wp2_with fail
  refine (find_any p _ _ Aq cq q ⟨3, (a.length : Int) + 1 + 1⟩ _ H2.out.tab.cell (Kd.R_reads' H2.out.tab.rq).2.2 hev (by omega)).mono ?_
  rintro e w3 ⟨rfl, hb3⟩
  have H3 := Aside0.mk (GrI.below H2.out hb3)
  clear hb3 H2
  go_wp2_with fail
  clear hs10 t2 t2a t2b f2 x0 x1
  clear HBX HT
  have hs3 : w.heap.size ≤ w3.heap.size := H3.out.bel.size
  go_loopw [4] (fun v wr => ∃ a1 q1 Aa' ca' Aq' cq', v = .int .i64 (idxI ⟨3, (a1.length : Int) + 1⟩ q1) ∧ q1.length % 2 = 0 ∧ 2 * a1.length + q1.length ≤ 2 * a.length + q.length + 2 ∧ q1.length ≤ q.length ∧ w.heap.size ≤ wr.heap.size ∧ Aside0 (GrI base p ok w wr (.slice Aq' q1.length cq') vg (.slice Aa' a1.length ca') a1 q1 g) ∧ Aside0 (growS (q1.length + 1) a1 q1 = growS (q.length + 1) (a ++ [v0]) q)) (fun _ wr => lenAt wr p)
  case atStart =>
   have e9 : (a ++ [v0]).length = a.length + 1 := by simp
   refine ⟨a ++ [v0], q, A10, cp10, Aq, cq, ?_, hev, by rw [e9]; omega, Nat.le_refl _, hs3, ?_, Aside0.mk rfl⟩
   ·rw [e9]; simp
   ·rw [e9]; exact H3
  case round =>
   clear H3
   obtain ⟨a1, q1, Ab, cb, Ar, cr, rfl, he1, hl1, hl2, hsz, HI, HE⟩ := hrel
   cases e : idxP ⟨3, (a1.length : Int) + 1⟩ q1 0 with
   | none =>
    have hz : idxI ⟨3, (a1.length : Int) + 1⟩ q1 = -1 := by unfold idxI; rw [e]
    have hg : growS (q1.length + 1) a1 q1 = (a1, q1) := by rw [growS, e]
    have HG := Aside0.mk (hg.symm.trans HE.out)
    clear hg HE
    rw [hz]
    go_wp2_with fail
    exact bodyPost_end (results_none rfl _ _ _) rfl ⟨_, _, rfl, by rw [← HG.out]; exact HI.out.tab, HI.out.bel⟩
   | some i =>
    have hb := (idxP_bound _ _ q1 0 i (Nat.le_refl _) e).2
    rw [Nat.zero_add] at hb
    have hz : idxI ⟨3, (a1.length : Int) + 1⟩ q1 = (i : Int) := by unfold idxI; rw [e]
    have HGN := Aside0.mk ((growS_next e).symm.trans HE.out)
    have HC := Aside0.mk (Kd.R_reads' HI.out.tab.rq).2.2
    obtain ⟨ad, hA, c0, c1⟩ := at_T24 HC.out ((i : Int) + 1) (by omega) (by omega)
    subst hA
    rw [show ((i : Int) + 1).toNat = i + 1 by omega] at c0 c1
    obtain ⟨x, hxx⟩ : ∃ x, rd_T24 q1 ((i : Int) + 1) = x := ⟨_, rfl⟩
    rw [hxx] at HGN c0 c1
    rw [hz]
    clear hz e HE hxx
    have t0 : wr.cell? ⟨p, 0, none⟩ = some (.slice Ab a1.length cb) := (blk_cell HI.out.tab.cell 0).trans rfl
    have t1 : wr.cell? ⟨p, 1, none⟩ = some (.slice (some ad) q1.length cr) := (blk_cell HI.out.tab.cell 1).trans rfl
    have i1 : (i : Int) + 1 < (q1.length : Int) := by omega
    have i0 : (0 : Int) ≤ (i : Int) + 1 := by omega
    have iw : IntKind.i64.wrap ((i : Int) + 1) = (i : Int) + 1 := by first | exact wrap_i64 _ (by omega) (by omega) | (simp [IntKind.wrap, IntKind.signed, IntKind.bits]; omega)
    go_wp2_with fail
    have t0a : ∀ o, (wr.alloc o).cell? ⟨p, 0, none⟩ = some (.slice Ab a1.length cb) := fun o => (blk_cell (blk_alloc HI.out.tab.cell o) 0).trans rfl
    have t0b : ∀ o, (wr.drew.alloc o).cell? ⟨p, 0, none⟩ = some (.slice Ab a1.length cb) := fun o => (blk_cell (blk_alloc (blk_drew HI.out.tab.cell) o) 0).trans rfl
    have f0 : wr.frozen? ⟨p, 0, none⟩ = false := blk_frozen HI.out.tab.cell 0
    go_region_law
     (refine R_append_lies k24 rfl (.tmp 39) (.tmp 48) 22 24 (.agg #[(.int .i64 0), (.int .i64 0)]) 16 rfl Try.underlying22 info24 rfl (by decide) base _ a1 x [.int .i64 x.f0, .int .i64 x.f1] (fun b => (ok b ∧ b ≠ p) ∧ some b ≠ (Value.slice (some ad) q1.length cr).ownBlock ∧ some b ≠ vg.ownBlock) (fun _ => False) _ (by simp [Act.eval]) (by simp [Act.eval]; rfl) (by first | exact blk_new _ _ | (apply blk_drew; exact blk_new _ _)) (k24_mkM _ _ _ x) (fun _ h => h.elim) ((GrI.below HI.out (by (repeat (first | exact Below.refl _ _ | apply below_drew | apply below_alloc)); done)).tab.fresha (fun k hk => HFR.out k (Nat.le_trans hsz (Nat.le_trans (by simp) hk)))) (GrI.below HI.out (by (repeat (first | exact Below.refl _ _ | apply below_drew | apply below_alloc)); done)).tab.ra (GrI.below HI.out (by (repeat (first | exact Below.refl _ _ | apply below_drew | apply below_alloc)); done)).tab.base_le (by simp [maxLen]; omega) (by omega) ?_; intro v10 w10 hr10 hg10 hat10; obtain ⟨A10, cp10, rfl⟩ := Kd.R_slice hr10; have hc10 := Tab.cella (GrI.below HI.out (by (repeat (first | exact Below.refl _ _ | apply below_drew | apply below_alloc)); done)).tab hg10; have t10 : w10.cell? ⟨p, 0, none⟩ = some (.slice Ab a1.length cb) := (blk_cell hc10 0).trans rfl; have f10 : w10.frozen? ⟨p, 0, none⟩ = false := blk_frozen hc10 0; have HX := Aside0.mk (GrI.next (GrI.below HI.out (by (repeat (first | exact Below.refl _ _ | apply below_drew | apply below_alloc)); done)) hr10 hg10 hat10); have hs10 : wr.heap.size ≤ w10.heap.size := Nat.le_trans (by simp) hg10.size; clear hr10 hg10 hat10 hc10; rw [show (a1 ++ [x]).length = a1.length + 1 by simp] at HX)
    all_goals
     go_wp2_with fail
     clear t10 f10 t0 t0a t0b c0 c1 f0
     have hs11 : w.heap.size ≤ (w10.setCell ⟨p, 0, none⟩ (.slice A10 (a1.length + 1) cp10)).heap.size := HX.out.bel.size
     have HXT : Aside0 (Tab base p ok (w10.setCell ⟨p, 0, none⟩ (.slice A10 (a1.length + 1) cp10)) (.slice A10 (a1.length + 1) cp10) (.slice (some ad) q1.length cr) vg (a1 ++ [x]) q1 g) := Aside0.mk HX.out.tab
     obtain ⟨w11, hw11⟩ : ∃ y, y = w10.setCell ⟨p, 0, none⟩ (.slice A10 (a1.length + 1) cp10) := ⟨_, rfl⟩
     rw [← hw11] at HX HXT hs11 ⊢
     clear hw11
     refine (take_any base p ok _ vg (some ad) cr (a1 ++ [x]) q1 g i w11 HXT.out hb (by omega)).mono ?_
     rintro e w12 ⟨vq', rfl, ht12, hb12⟩
     have H12 : Aside0 (GrI base p ok w w12 vq' vg (.slice A10 (a1.length + 1) cp10) (a1 ++ [x]) (takeP q1 i) g) := Aside0.mk ⟨ht12, HX.out.bel.trans hb12⟩
     obtain ⟨Aq2, cq2, rfl⟩ := Kd.R_slice ht12.rq
     clear ht12 hb12 HX HXT
     have t10 : w12.cell? ⟨p, 0, none⟩ = some (.slice A10 (a1.length + 1) cp10) := (blk_cell H12.out.tab.cell 0).trans rfl
     have hs12 : w.heap.size ≤ w12.heap.size := H12.out.bel.size
     go_wp2_with fail
     clear t10
     refine (dict_integer.calls _ _ _ _ rfl).mono ?_
     rintro e w13 ⟨rfl, hb13⟩
     have H13 := Aside0.mk (GrI.below H12.out hb13)
     clear hb13 H12 hs12
     go_wp2_with fail
     have hl9 := takeP_len q1 i
     refine (find_any p _ _ Aq2 cq2 (takeP q1 i) ⟨3, (a1.length : Int) + 1 + 1⟩ _ H13.out.tab.cell (Kd.R_reads' H13.out.tab.rq).2.2 (by omega) (by omega)).mono ?_
     rintro e w14 ⟨rfl, hb14⟩
     have H14 := Aside0.mk (GrI.below H13.out hb14)
     have hs14 : w.heap.size ≤ w14.heap.size := H14.out.bel.size
     have t14 : w14.cell? ⟨p, 1, none⟩ = some (.slice Aq2 (takeP q1 i).length cq2) := (blk_cell H14.out.tab.cell 1).trans rfl
     clear hb14 H13
     go_wp2_with fail
     have e9 : (a1 ++ [x]).length = a1.length + 1 := by simp
     go_roundw
     case rel => exact ⟨a1 ++ [x], takeP q1 i, A10, cp10, Aq2, cq2, by rw [e9]; simp, by omega, by rw [e9]; omega, by omega, hs14, by rw [e9]; exact H14, HGN⟩
     case measure => simp only [lenAt, t14, t1]; omega
end Go.Proofs.YtadhkfklkbdabaaR.G
end
