import Derived.WalkKit
import Derived.WalkLawsBesides
import Derived.Deep.RegionLaw
import Derived.Deep.Cut
import Derived.WalkSpells
import Derived.Recover
import Derived.Laws.Bits64b
import Derived.Test.YtkkgbbfojmnopaaPReE11
import Derived.Test.YtkkgbbfojmnopaaPReF29d
set_option linter.unusedVariables false
set_option linter.unusedSimpArgs false
section
namespace Go.Proofs.Ytkkgbbfojmnopaa.G
open Go.RowKit Go.Proofs.YtkkgbbfojmnopaaW.PrintWords Go.Proofs.YtkkgbbfojmnopaaW.PrintLast Go.Proofs.YtkkgbbfojmnopaaW.PrintMore
structure PQ (w0 w : World) (g vp vq : Nat) (X : Nat → Prop) (s : ByteArray) (b : Bool) (cv : Array Value) (v2 v3 v4 : Value) (us : List S50) (ks : List S42) (is : List S52) (wr : World) : Prop where
 st : IsS68 w0 wr g s b
 bel : Below w0.heap.size w0 wr
 kb : KeepBut w wr g none
 pp : wr.heap[vp]? = some (.cells #[.int .i64 0, .int .i64 0, .slice none 0 0, .slice none 0 0, .slice none 0 0] 47 (0, 0))
 pv : wr.heap[vq]? = some (.cells cv 47 (0, 0))
 r2 : Kd.R k50 50 wr w.heap.size (fun k => vq < k ∧ ¬ X k) v2 us
 r3 : Kd.R k42 42 wr w.heap.size (fun k => vq < k ∧ ¬ X k) v3 ks
 r4 : Kd.R k52 52 wr w.heap.size (fun k => vq < k ∧ ¬ X k) v4 is
 h0 : w0.heap.size ≤ w.heap.size
 hg : g < w.heap.size
 h1 : w.heap.size ≤ vp
 h2 : vp < vq
section
variable {w0 w wr w1 : World} {g vp vq : Nat} {X : Nat → Prop} {s : ByteArray} {b : Bool} {cv : Array Value} {v2 v3 v4 : Value} {us : List S50} {ks : List S42} {is : List S52}
theorem PQ.below (h : PQ w0 w g vp vq X s b cv v2 v3 v4 us ks is wr) (hb : Below wr.heap.size wr w1) : PQ w0 w g vp vq X s b cv v2 v3 v4 us ks is w1 :=
 ⟨h.st.below hb, q10q h.bel hb, h.kb.trans (KeepBut.of_below hb g none) (.inl rfl), q13q h.pp hb, q13q h.pv hb, Kd.q38q h.r2 hb, Kd.q38q h.r3 hb, Kd.q38q h.r4 hb, h.h0, h.hg, h.h1, h.h2⟩
theorem PQ.drew (h : PQ w0 w g vp vq X s b cv v2 v3 v4 us ks is wr) : PQ w0 w g vp vq X s b cv v2 v3 v4 us ks is wr.drew := h.below (below_drew (Below.refl _ _))
theorem PQ.gp (h : PQ w0 w g vp vq X s b cv v2 v3 v4 us ks is wr) : g < vp ∧ g < vq ∧ w.heap.size ≤ vq ∧ w0.heap.size ≤ vq ∧ w0.heap.size ≤ vp := by
 have := h.h0; have := h.hg; have := h.h1; have := h.h2; omega
theorem PQ.wl (h : PQ w0 w g vp vq X s b cv v2 v3 v4 us ks is wr) : w.heap.size ≤ wr.heap.size := h.kb.1
theorem PQ.call {s' : ByteArray} {b' : Bool} (h : PQ w0 w g vp vq X s b cv v2 v3 v4 us ks is wr) (hi : IsS68 w0 w1 g s' b') (hb : Below w0.heap.size w0 w1) (hk : KeepBut wr w1 g none) : PQ w0 w g vp vq X s' b' cv v2 v3 v4 us ks is w1 :=
 ⟨hi, hb, h.kb.trans hk (.inl rfl), (hk.2 _ (q16q h.pp) (Nat.ne_of_gt h.gp.1) (by simp)).trans h.pp, (hk.2 _ (q16q h.pv) (Nat.ne_of_gt h.gp.2.1) (by simp)).trans h.pv,
  Kd.R_keep h.r2 hk (fun k hk => by have := h.gp; omega), Kd.R_keep h.r3 hk (fun k hk => by have := h.gp; omega), Kd.R_keep h.r4 hk (fun k hk => by have := h.gp; omega), h.h0, h.hg, h.h1, h.h2⟩
theorem PQ.set {cv' : Array Value} (h : PQ w0 w g vp vq X s b cv v2 v3 v4 us ks is wr) (j : Nat) (u : Value) (e : cv.setIfInBounds j u = cv') : PQ w0 w g vp vq X s b cv' v2 v3 v4 us ks is (wr.setCell ⟨vq, j, none⟩ u) :=
 ⟨h.st.far (by have := h.gp; show g ≠ vq; omega) _, q5q h.bel h.gp.2.2.2.1, keep_far h.kb (p := ⟨vq, j, none⟩) h.gp.2.2.1 u, q18q h.pp (by have := h.h2; show vp ≠ vq; omega) _, q14q h.pv j u e,
  Kd.R_far h.r2 (p := ⟨vq, j, none⟩) (fun k hk => by show k ≠ vq; omega) _, Kd.R_far h.r3 (p := ⟨vq, j, none⟩) (fun k hk => by show k ≠ vq; omega) _, Kd.R_far h.r4 (p := ⟨vq, j, none⟩) (fun k hk => by show k ≠ vq; omega) _, h.h0, h.hg, h.h1, h.h2⟩
theorem PQ.setx {gb : Nat} (h : PQ w0 w g vp vq X s b cv v2 v3 v4 us ks is wr) (hx : X gb) (hgb : vq < gb) (j : Nat) (u : Value) : PQ w0 w g vp vq X s b cv v2 v3 v4 us ks is (wr.setCell ⟨gb, j, none⟩ u) :=
 ⟨h.st.far (by have := h.gp; show g ≠ gb; omega) _, q5q h.bel (by have := h.gp; omega), keep_far h.kb (p := ⟨gb, j, none⟩) (by have := h.gp; show w.heap.size ≤ gb; omega) u, q18q h.pp (by have := h.h2; show vp ≠ gb; omega) _, q18q h.pv (by show vq ≠ gb; omega) _,
  Kd.R_far h.r2 (p := ⟨gb, j, none⟩) (fun k hk e => hk.2 (by have : k = gb := e; rw [this]; exact hx)) _, Kd.R_far h.r3 (p := ⟨gb, j, none⟩) (fun k hk e => hk.2 (by have : k = gb := e; rw [this]; exact hx)) _, Kd.R_far h.r4 (p := ⟨gb, j, none⟩) (fun k hk e => hk.2 (by have : k = gb := e; rw [this]; exact hx)) _, h.h0, h.hg, h.h1, h.h2⟩
theorem PQ.mark {gb : Nat} (h : PQ w0 w g vp vq (fun _ => False) s b cv v2 v3 v4 us ks is wr) (hgb : wr.heap.size ≤ gb) : PQ w0 w g vp vq (fun k => k = gb) s b cv v2 v3 v4 us ks is wr :=
 ⟨h.st, h.bel, h.kb, h.pp, h.pv, Kd.q30q (Kd.R_bound h.r2) (fun k hk => ⟨hk.1.1, fun e => by have := hk.2.2.1; omega⟩), Kd.q30q (Kd.R_bound h.r3) (fun k hk => ⟨hk.1.1, fun e => by have := hk.2.2.1; omega⟩), Kd.q30q (Kd.R_bound h.r4) (fun k hk => ⟨hk.1.1, fun e => by have := hk.2.2.1; omega⟩), h.h0, h.hg, h.h1, h.h2⟩
theorem PQ.unmark (h : PQ w0 w g vp vq X s b cv v2 v3 v4 us ks is wr) : PQ w0 w g vp vq (fun _ => False) s b cv v2 v3 v4 us ks is wr :=
 ⟨h.st, h.bel, h.kb, h.pp, h.pv, Kd.q30q h.r2 (fun k hk => ⟨hk.1, fun e => e⟩), Kd.q30q h.r3 (fun k hk => ⟨hk.1, fun e => e⟩), Kd.q30q h.r4 (fun k hk => ⟨hk.1, fun e => e⟩), h.h0, h.hg, h.h1, h.h2⟩
theorem PQ.push2 {v1 : Value} {ys : List S50} (h : PQ w0 w g vp vq X s b cv v2 v3 v4 us ks is wr) (hn : Kd.R k50 50 w1 w.heap.size (fun k => vq < k ∧ ¬ X k) v1 ys) (hb : Below w.heap.size wr w1) (hg : wr.grownBy w1 v2.ownBlock) : PQ w0 w g vp vq X s b cv v1 v3 v4 ys ks is w1 :=
 ⟨h.st.grown hg (Kd.R_away h.r2 (fun k hk => by have := h.gp; omega)), below_weaken h.bel h.h0 hb, h.kb.trans (KeepBut.of_grown hg g) (Kd.R_base2 h.r2), blk_grown h.pp hg (Kd.R_away h.r2 (fun k hk => by have := h.h2; omega)), blk_grown h.pv hg (Kd.R_away h.r2 (fun k hk => by omega)),
  hn, Kd.R_over h.r3 h.r2 (by decide) hg, Kd.R_over h.r4 h.r2 (by decide) hg, h.h0, h.hg, h.h1, h.h2⟩
theorem PQ.push3 {v1 : Value} {ys : List S42} (h : PQ w0 w g vp vq X s b cv v2 v3 v4 us ks is wr) (hn : Kd.R k42 42 w1 w.heap.size (fun k => vq < k ∧ ¬ X k) v1 ys) (hb : Below w.heap.size wr w1) (hg : wr.grownBy w1 v3.ownBlock) : PQ w0 w g vp vq X s b cv v2 v1 v4 us ys is w1 :=
 ⟨h.st.grown hg (Kd.R_away h.r3 (fun k hk => by have := h.gp; omega)), below_weaken h.bel h.h0 hb, h.kb.trans (KeepBut.of_grown hg g) (Kd.R_base2 h.r3), blk_grown h.pp hg (Kd.R_away h.r3 (fun k hk => by have := h.h2; omega)), blk_grown h.pv hg (Kd.R_away h.r3 (fun k hk => by omega)),
  Kd.R_over h.r2 h.r3 (by decide) hg, hn, Kd.R_over h.r4 h.r3 (by decide) hg, h.h0, h.hg, h.h1, h.h2⟩
theorem PQ.push4 {v1 : Value} {ys : List S52} (h : PQ w0 w g vp vq X s b cv v2 v3 v4 us ks is wr) (hn : Kd.R k52 52 w1 w.heap.size (fun k => vq < k ∧ ¬ X k) v1 ys) (hb : Below w.heap.size wr w1) (hg : wr.grownBy w1 v4.ownBlock) : PQ w0 w g vp vq X s b cv v2 v3 v1 us ks ys w1 :=
 ⟨h.st.grown hg (Kd.R_away h.r4 (fun k hk => by have := h.gp; omega)), below_weaken h.bel h.h0 hb, h.kb.trans (KeepBut.of_grown hg g) (Kd.R_base2 h.r4), blk_grown h.pp hg (Kd.R_away h.r4 (fun k hk => by have := h.h2; omega)), blk_grown h.pv hg (Kd.R_away h.r4 (fun k hk => by omega)),
  Kd.R_over h.r2 h.r4 (by decide) hg, Kd.R_over h.r3 h.r4 (by decide) hg, hn, h.h0, h.hg, h.h1, h.h2⟩
theorem PQ.fresh (h : PQ w0 w g vp vq (fun _ => False) s b cv v2 v3 v4 us ks is wr) : ∀ k, wr.heap.size ≤ k → vq < k ∧ ¬ (fun _ : Nat => False) k := fun k hk => ⟨Nat.lt_of_lt_of_le (q16q h.pv) hk, fun e => e⟩
theorem PQ.done {cr cs : Int} (h : PQ w0 w g vp vq X s b cv v2 v3 v4 us ks is wr) :
  Kd.R k50 50 (((((wr.setCell ⟨vp, 0, none⟩ (.int .i64 cr)).setCell ⟨vp, 1, none⟩ (.int .i64 cs)).setCell ⟨vp, 2, none⟩ v2).setCell ⟨vp, 3, none⟩ v3).setCell ⟨vp, 4, none⟩ v4) w.heap.size (fun _ => True) v2 us ∧ Kd.R k42 42 (((((wr.setCell ⟨vp, 0, none⟩ (.int .i64 cr)).setCell ⟨vp, 1, none⟩ (.int .i64 cs)).setCell ⟨vp, 2, none⟩ v2).setCell ⟨vp, 3, none⟩ v3).setCell ⟨vp, 4, none⟩ v4) w.heap.size (fun _ => True) v3 ks ∧ Kd.R k52 52 (((((wr.setCell ⟨vp, 0, none⟩ (.int .i64 cr)).setCell ⟨vp, 1, none⟩ (.int .i64 cs)).setCell ⟨vp, 2, none⟩ v2).setCell ⟨vp, 3, none⟩ v3).setCell ⟨vp, 4, none⟩ v4) w.heap.size (fun _ => True) v4 is ∧ IsS68 w0 (((((wr.setCell ⟨vp, 0, none⟩ (.int .i64 cr)).setCell ⟨vp, 1, none⟩ (.int .i64 cs)).setCell ⟨vp, 2, none⟩ v2).setCell ⟨vp, 3, none⟩ v3).setCell ⟨vp, 4, none⟩ v4) g s b ∧ Below w0.heap.size w0 (((((wr.setCell ⟨vp, 0, none⟩ (.int .i64 cr)).setCell ⟨vp, 1, none⟩ (.int .i64 cs)).setCell ⟨vp, 2, none⟩ v2).setCell ⟨vp, 3, none⟩ v3).setCell ⟨vp, 4, none⟩ v4) ∧ KeepBut w (((((wr.setCell ⟨vp, 0, none⟩ (.int .i64 cr)).setCell ⟨vp, 1, none⟩ (.int .i64 cs)).setCell ⟨vp, 2, none⟩ v2).setCell ⟨vp, 3, none⟩ v3).setCell ⟨vp, 4, none⟩ v4) g none := by
 have hb := h.gp.2.2.2.2
 have hgv : g ≠ vp := Nat.ne_of_lt h.gp.1
 have far : ∀ k, vq < k ∧ ¬ X k → k ≠ vp := fun k hk => by have := h.h2; omega
 have st : ∀ {α : Type} {d : Kd α} {e : Nat} {v : Value} {xs : List α} {W : World} (j : Nat) (u : Value), Kd.R d e W w.heap.size (fun k => vq < k ∧ ¬ X k) v xs → Kd.R d e (W.setCell ⟨vp, j, none⟩ u) w.heap.size (fun k => vq < k ∧ ¬ X k) v xs := fun j u hr => Kd.R_far hr (p := ⟨vp, j, none⟩) far u
 refine ⟨Kd.q30q (st _ _ (st _ _ (st _ _ (st _ _ (st _ _ h.r2))))) (fun _ _ => trivial), Kd.q30q (st _ _ (st _ _ (st _ _ (st _ _ (st _ _ h.r3))))) (fun _ _ => trivial), Kd.q30q (st _ _ (st _ _ (st _ _ (st _ _ (st _ _ h.r4))))) (fun _ _ => trivial), ?_, ?_, ?_⟩
 ·exact ((((h.st.far (p := ⟨vp, 0, none⟩) hgv _).far (p := ⟨vp, 1, none⟩) hgv _).far (p := ⟨vp, 2, none⟩) hgv _).far (p := ⟨vp, 3, none⟩) hgv _).far (p := ⟨vp, 4, none⟩) hgv _
 ·exact q5q (q5q (q5q (q5q (q5q h.bel hb) hb) hb) hb) hb
 ·exact keep_far (keep_far (keep_far (keep_far (keep_far h.kb (p := ⟨vp, 0, none⟩) h.h1 _) (p := ⟨vp, 1, none⟩) h.h1 _) (p := ⟨vp, 2, none⟩) h.h1 _) (p := ⟨vp, 3, none⟩) h.h1 _) (p := ⟨vp, 4, none⟩) h.h1 _
end
def fQ0.T8 : Bool × List (List Nat × List Nat) := (true, [([], []), ([0], [0]), ([], []), ([2], [2]), ([], []), ([4], [4]), ([3, 5], [3, 5]), ([6], [6]), ([1, 7, 5], [1, 7]), ([0, 1, 2, 3, 4, 5, 6, 7, 8], []), ([9, 8, 8, 0, 1, 2, 3, 4, 5, 6, 7, 8], [8, 9])])
def fQ0.B8 : List Nat := [0, 1, 0, 4, 0, 16, 60, 124, 255, 511, 1023]
theorem fQ0.tab8 : rtab .any (opsOf Try.f29 8) = fQ0.T8 := by kernel_rfl
theorem fQ0.bits8 : waitsOk fQ0.T8.2 fQ0.B8 = true := by kernel_rfl
def fQ0.T13 : Bool × List (List Nat × List Nat) := (true, [([], []), ([0], [0]), ([], []), ([2], [2]), ([3], [3]), ([1, 4, 3], [1, 4]), ([0, 1, 2, 3, 4, 5], []), ([6, 5, 5, 0, 1, 2, 3, 4, 5], [5, 6])])
def fQ0.B13 : List Nat := [0, 1, 0, 4, 12, 31, 63, 127]
theorem fQ0.tab13 : rtab .any (opsOf Try.f29 13) = fQ0.T13 := by kernel_rfl
theorem fQ0.bits13 : waitsOk fQ0.T13.2 fQ0.B13 = true := by kernel_rfl
set_option maxHeartbeats 4000000 in
set_option maxRecDepth 100000 in
theorem fQ0.calls (k : Nat) (g : Nat) (s0_0 : ByteArray) (s0_1 : Bool) (r1 : Int) (r2 : Int) (r3 : List (S50)) (r4 : List (S42)) (r5 : List (S52)) (r6 : ByteArray) (r7 : Bool) (w0 w : World) (hI : IsS68 w0 w g s0_0 s0_1) (hB : Below w0.heap.size w0 w) (h : fQ0.f k s0_0 s0_1 = some (r1, r2, r3, r4, r5, r6, r7)) :
  Calls Try.prog 29 #[.pointer (some ⟨g, 0, none⟩)] w fun e w' => ∃ v2_ v3_ v4_ : Value, e = .returned (.agg #[.int .i64 r1, .int .i64 r2, v2_, v3_, v4_]) ∧ Kd.R k50 50 w' w.heap.size (fun _ => True) v2_ r3 ∧ Kd.R k42 42 w' w.heap.size (fun _ => True) v3_ r4 ∧ Kd.R k52 52 w' w.heap.size (fun _ => True) v4_ r5 ∧ IsS68 w0 w' g r6 r7 ∧ Below w0.heap.size w0 w' ∧ KeepBut w w' g none := by
 have H : ((fQ3.f k s0_0 s0_1 20).bind fun bt337 => ((fQ3.f k bt337.2.1 bt337.2.2 250).bind fun bt341 => ((fQ3.f k bt341.2.1 bt341.2.2 60).bind fun bt344 => (fQ0.l0 k bt344.1 0 bt344.2.1 bt344.2.2 bt337.1 bt341.1 ([] : List (S50)))))) = some (r1, r2, r3, r4, r5, r6, r7) := h
 clear h
 replace H := Option.bind_eq_some_iff.mp H
 obtain ⟨⟨cr, sa, ba⟩, A1, H⟩ := H
 replace H := Option.bind_eq_some_iff.mp H
 obtain ⟨⟨cs, sb, bb⟩, A2, H⟩ := H
 replace H := Option.bind_eq_some_iff.mp H
 obtain ⟨⟨n, sc, bc⟩, A3, H⟩ := H
 dsimp only at A2 A3 H
 replace A1 := Aq.mk A1
 replace A2 := Aq.mk A2
 replace A3 := Aq.mk A3
 have HL := Aq.mk H
 clear H
 have HI := Aq.mk hI
 have HB := Aq.mk hB
 clear hI hB
 go_enter Try.func29, Try.ntmps29
 go_upto_region 1 with (fail)
 obtain ⟨w1, hw1⟩ : ∃ x, x = w.alloc (.cells #[.int .i64 0, .int .i64 0, .slice none 0 0, .slice none 0 0, .slice none 0 0] 47) := ⟨_, rfl⟩
 rw [← hw1]
 obtain ⟨vp, hvp⟩ : ∃ x, x = w.heap.size := ⟨_, rfl⟩
 rw [← hvp]
 have HI1 := Aq.mk (show IsS68 w0 w1 g s0_0 s0_1 from by rw [hw1]; exact HI.out.alloc _)
 have HB1 := Aq.mk (show Below w0.heap.size w0 w1 from by rw [hw1]; exact q4q HB.out _)
 have HK1 := Aq.mk (show KeepBut w w1 g none from by rw [hw1]; exact KeepBut.of_below (q4q (Below.refl _ _) _) g none)
 have HP1 := Aq.mk (show w1.heap[vp]? = some (.cells #[.int .i64 0, .int .i64 0, .slice none 0 0, .slice none 0 0, .slice none 0 0] 47 (0, 0)) from by rw [hw1, hvp]; exact blk_new _ _)
 have HV := Aq.mk (Nat.le_of_eq hvp.symm)
 have HG := Aq.mk HI.out.lt
 have H0 := Aq.mk HB.out.size
 clear hw1 hvp HI HB
 go_wp2_with fail
 refine (fQ3.calls k g s0_0 s0_1 20 cr sa ba w0 w1 HI1.out HB1.out A1.out).mono ?_
 rintro e w2 ⟨rfl, hi, hb, hk⟩
 have HI2 := Aq.mk hi
 have HB2 := Aq.mk hb
 have HK2 := Aq.mk (HK1.out.trans hk (.inl rfl))
 have HP2 := Aq.mk ((hk.2 _ (q16q HP1.out) (Nat.ne_of_gt (Nat.lt_of_lt_of_le HG.out HV.out)) (by simp)).trans HP1.out)
 clear hi hb hk HI1 HB1 HK1 HP1
 go_upto_region 2 with ((with_reducible refine q12q (N := 3) rfl ?_); refine q11q ?hg (N := 3) ?hd (cs := #[.int .i64 0, .int .i64 0, .slice none 0 0, .slice none 0 0, .slice none 0 0]) (t := 47) ?hr ?_; (case hd => rfl); (case hg => rfl); (case hr => first | (go_simp; done) | (go_simp; rfl)); intro vq hvq w3 hbox hb3; have HX3 := Aq.mk hbox; have HB3 := Aq.mk hb3; have HVQ := Aq.mk hvq; clear hbox hb3 hvq; have cz0 : w3.cell? ⟨vq, 0, none⟩ = some (.int .i64 0) := (q3q HX3.out 0).trans rfl; have cz1 : w3.cell? ⟨vq, 1, none⟩ = some (.int .i64 0) := (q3q HX3.out 1).trans rfl; have cz2 : w3.cell? ⟨vq, 2, none⟩ = some (.slice none 0 0) := (q3q HX3.out 2).trans rfl; have cz3 : w3.cell? ⟨vq, 3, none⟩ = some (.slice none 0 0) := (q3q HX3.out 3).trans rfl; have cz4 : w3.cell? ⟨vq, 4, none⟩ = some (.slice none 0 0) := (q3q HX3.out 4).trans rfl; have fz0 := q1q HX3.out 0; have fz1 := q1q HX3.out 1; have fz2 := q1q HX3.out 2; have fz3 := q1q HX3.out 3; have fz4 := q1q HX3.out 4)
 have HQ0 : PQ w0 w g vp vq (fun _ => False) sa ba #[.int .i64 0, .int .i64 0, .slice none 0 0, .slice none 0 0, .slice none 0 0] (.slice none 0 0) (.slice none 0 0) (.slice none 0 0) [] [] [] w3 :=
  ⟨HI2.out.below HB3.out, q10q HB2.out HB3.out, HK2.out.trans (KeepBut.of_below HB3.out g none) (.inl rfl), q13q HP2.out HB3.out, HX3.out, Kd.R_nil _ _ _ _ _, Kd.R_nil _ _ _ _ _, Kd.R_nil _ _ _ _ _, H0.out, HG.out, HV.out, by have := q16q HP2.out; have := HVQ.out; omega⟩
 have HQ := Aq.mk (((((HQ0.set (cv' := #[.int .i64 cr, .int .i64 0, .slice none 0 0, .slice none 0 0, .slice none 0 0]) 0 (.int .i64 cr) rfl).set (cv' := #[.int .i64 cr, .int .i64 0, .slice none 0 0, .slice none 0 0, .slice none 0 0]) 1 (.int .i64 0) rfl).set (cv' := #[.int .i64 cr, .int .i64 0, .slice none 0 0, .slice none 0 0, .slice none 0 0]) 2 (.slice none 0 0) rfl).set (cv' := #[.int .i64 cr, .int .i64 0, .slice none 0 0, .slice none 0 0, .slice none 0 0]) 3 (.slice none 0 0) rfl).set (cv' := #[.int .i64 cr, .int .i64 0, .slice none 0 0, .slice none 0 0, .slice none 0 0]) 4 (.slice none 0 0) rfl)
 generalize (((((w3.setCell ⟨vq, 0, none⟩ (.int .i64 cr)).setCell ⟨vq, 1, none⟩ (.int .i64 0)).setCell ⟨vq, 2, none⟩ (.slice none 0 0)).setCell ⟨vq, 3, none⟩ (.slice none 0 0)).setCell ⟨vq, 4, none⟩ (.slice none 0 0)) = w4 at HQ ⊢
 clear HQ0 HI2 HB2 HK2 HP2 HX3 HB3 HVQ cz0 cz1 cz2 cz3 cz4 fz0 fz1 fz2 fz3 fz4 HV HG H0
 go_wp2_with fail
 refine (fQ3.calls k g sa ba 250 cs sb bb w0 _ HQ.out.st HQ.out.bel A2.out).mono ?_
 rintro e w5 ⟨rfl, hi, hb, hk⟩
 have HQ5 := Aq.mk (HQ.out.call hi hb hk)
 clear hi hb hk HQ
 have cz1 : w5.cell? ⟨vq, 1, none⟩ = some (.int .i64 0) := (q3q HQ5.out.pv 1).trans rfl
 have fz1 := q1q HQ5.out.pv 1
 go_upto_region 3 with (fail)
 have HQ := Aq.mk (HQ5.out.set (cv' := #[.int .i64 cr, .int .i64 cs, .slice none 0 0, .slice none 0 0, .slice none 0 0]) 1 (.int .i64 cs) rfl)
 generalize w5.setCell ⟨vq, 1, none⟩ (.int .i64 cs) = w6 at HQ ⊢
 clear HQ5 cz1 fz1
 go_wp2_with fail
 refine (fQ3.calls k g sb bb 60 n sc bc w0 _ HQ.out.st HQ.out.bel A3.out).mono ?_
 rintro e w7 ⟨rfl, hi, hb, hk⟩
 have HQ7 := Aq.mk (HQ.out.call hi hb hk)
 clear hi hb hk HQ A1 A2 A3
 go_wp2_with fail
 go_loopg [5] k (fun kq v5 wr => ∃ (i : Int) (sr : ByteArray) (br : Bool) (v : Value) (us : List S50), v5 = .int .i64 i ∧ Aq (fQ0.l0 kq n i sr br cr cs us = some (r1, r2, r3, r4, r5, r6, r7)) ∧ Aq (kq ≤ k) ∧ Aq (PQ w0 w g vp vq (fun _ => False) sr br #[.int .i64 cr, .int .i64 cs, v, .slice none 0 0, .slice none 0 0] v (.slice none 0 0) (.slice none 0 0) us [] [] wr))
 case atStart => exact ⟨0, sc, bc, .slice none 0 0, [], rfl, HL, ⟨Nat.le_refl _⟩, HQ7⟩
 case round =>
  clear HQ7 HL
  obtain ⟨i, sr, br, v, us, rfl, HA, HK1, HQ⟩ := hrel
  obtain ⟨A, c, rfl⟩ := Kd.q33q HQ.out.r2
  cases gk with
  | zero => exact absurd HA.out (by simp [fQ0.l0])
  | succ k1 =>
   go_upto_region 5 with (fail)
   go_cut [27] (fun v27 wc => ∃ x27 : Bool, v27 = .bool x27 ∧ Aq (x27 = (decide (i < n) && !br)) ∧ Aq (PQ w0 w g vp vq (fun _ => False) sr br #[.int .i64 cr, .int .i64 cs, .slice A us.length c, .slice none 0 0, .slice none 0 0] (.slice A us.length c) (.slice none 0 0) (.slice none 0 0) us [] [] wc))
   case first =>
    have hcz0 := cellS68_0 HQ.out.st.1
    have hcz1 := cellS68_1 HQ.out.st.1
    have hfz0 := q1q HQ.out.st.1 0
    have hfz1 := q1q HQ.out.st.1 1
    by_cases hin : i < n
    ·have hinb : decide (i < n) = true := decide_eq_true hin
     go_wp2
     go_meet
     case rel => exact ⟨_, rfl, ⟨by simp [hinb]⟩, HQ⟩
    have hinb : decide (i < n) = false := decide_eq_false hin
    go_wp2
    go_meet
    case rel => exact ⟨_, rfl, ⟨by simp [hinb]⟩, HQ⟩
   case rest =>
    clear HQ
    obtain ⟨x27, rfl, HX27, HQ⟩ := hcut
    have hj : fQ0.j1 k1 n i x27 sr br cr cs us = some (r1, r2, r3, r4, r5, r6, r7) := by
     have h1 := HA.out
     rw [fQ0.l0] at h1
     rw [HX27.out]
     by_cases hin : i < n
     ·rw [if_pos hin] at h1; rw [decide_eq_true hin, Bool.true_and]; exact h1
     rw [if_neg hin] at h1; rw [decide_eq_false hin, Bool.false_and]; exact h1
    clear HA
    have HJ := Aq.mk hj
    clear hj
    cases k1 with
    | zero => exact absurd HJ.out (by simp [fQ0.j1])
    | succ k2 =>
     cases x27 with
     | true =>
      have hj := HJ.out
      rw [fQ0.j1, if_pos rfl] at hj
      obtain ⟨⟨m1, s1, b1⟩, B1, hj⟩ := Option.bind_eq_some_iff.mp hj
      obtain ⟨⟨m2, s2, b2⟩, B2, hj⟩ := Option.bind_eq_some_iff.mp hj
      dsimp only at B2 hj
      by_cases hly : us.length < 8796093022208
      case neg =>
       rw [if_neg hly] at hj
       cases hj
      rw [if_pos hly] at hj
      obtain ⟨yn, hyn⟩ : ∃ y_, y_ = us ++ [(⟨(m1 == 1), m2⟩ : S50)] := ⟨_, rfl⟩
      rw [← hyn] at hj
      have HY := Aq.mk hyn
      have AL := Aq.mk hj
      have LMq := Aq.mk hly
      replace B1 := Aq.mk B1
      replace B2 := Aq.mk B2
      clear hyn hj hly HJ HX27
      go_wp2_with fail
      refine (fQ3.calls k2 g sr br 1 m1 s1 b1 w0 _ HQ.out.st HQ.out.bel B1.out).mono ?_
      rintro e wd ⟨rfl, hi, hb, hk⟩
      have HQd := Aq.mk (HQ.out.call hi hb hk)
      clear hi hb hk HQ
      have HQ := HQd
      clear HQd
      try go_wp2
      have HQ2 := Aq.mk HQ.out.drew
      clear HQ
      refine start_ (n := 11) (S := fun w' => w'.cell? ⟨vq, 2, none⟩ = some (.slice A us.length c)) (ds := [10]) #[false, false, false, false, false, false, false, false, false, false, false] (by kernel_rfl) rfl rfl ((q3q HQ2.out.pv 2).trans rfl) (fun hHeld => ?_); refine with_tabW fQ0.tab8 fQ0.bits8 (fun HT_ HW_ => ?_)
      generalize World.drew _ = w8 at HQ2 hHeld ⊢
      refine pure_ (i := 0) (N := some 32) (v := ?_) (a' := ?_) (bA 11 1) rfl rfl (q17q HT_.out (by kernel_rfl)) (fun _ _ _ h => h) (Or.inl ⟨by rfl, ?_⟩) ?_ ?_
      rotate_left
      ·intro w'
       go_simp
       with_reducible rfl
      rotate_left
      ·simp only [Act.put, sA_, sZ_, sS_, i64_w, i32_w]
       rfl
      refine pure_ (i := 2) (N := some 34) (v := ?_) (a' := ?_) (bA 11 5) rfl rfl (q17q HT_.out (by kernel_rfl)) (fun _ _ _ h => h) (Or.inl ⟨by rfl, ?_⟩) ?_ ?_
      rotate_left
      ·intro w'
       go_simp
       with_reducible rfl
      rotate_left
      ·simp only [Act.put, sA_, sZ_, sS_, i64_w, i32_w]
       rfl
      refine pure_ (i := 3) (N := some 35) (v := ?_) (a' := ?_) (bA 11 13) rfl rfl (q17q HT_.out (by kernel_rfl)) (fun _ _ _ h => h) (Or.inl ⟨by rfl, ?_⟩) ?_ ?_
      rotate_left
      ·intro w'
       go_simp
       with_reducible rfl
      rotate_left
      ·simp only [Act.put, sA_, sZ_, sS_, i64_w, i32_w]
       rfl
      refine pure_ (i := 4) (N := some 36) (v := ?_) (a' := ?_) (bA 11 29) rfl rfl (q17q HT_.out (by kernel_rfl)) (fun _ _ _ h => h) (Or.inl ⟨by rfl, ?_⟩) ?_ ?_
      rotate_left
      ·intro w'
       go_simp
       with_reducible rfl
      rotate_left
      ·simp only [Act.put, sA_, sZ_, sS_, i64_w, i32_w]
       rfl
      refine take_ (i := 1) (N := some 33) (v := ?_) (a' := ?_) (bA 11 31) rfl rfl (q32q HT_.out HW_.out (by kernel_rfl)) (fun _ _ _ h => h) (Or.inl ⟨by rfl, ?_⟩) hHeld ?_ ?_
      rotate_left
      ·rintro w' s0
       go_simp
       with_reducible rfl
      rotate_left
      ·simp only [Act.put, sA_, sZ_, sS_, i64_w, i32_w]
       rfl
      refine one_ (i := 5) (N := some 37) (bA 11 63) rfl rfl (q39q HT_.out (by kernel_rfl)) (by decide) (fun K hK => ?_)
      refine goes_ Try.func28 (by kernel_rfl) rfl #[.pointer (some ⟨g, 0, none⟩), .int .i64 250] (by rfl) rfl rfl (by (try simp only [List.map_toArray, List.map_cons, List.map_nil]); first | done | rfl) ?_
      with_reducible refine (fQ3.calls k2 g s1 b1 250 m2 s2 b2 w0 _ HQ2.out.st HQ2.out.bel B2.out).mono ?_
      rintro e w9 ⟨rfl, hi, hb, hk⟩
      refine ⟨_, rfl, ?_⟩
      have HQ3 := Aq.mk (HQ2.out.call hi hb hk)
      clear HQ2 hi hb hk
      refine hK.out _ _ ((q3q HQ3.out.pv 2).trans rfl) (fun hHeld => ?_)
      clear hK K
      refine norm_ (a' := ?_) ?_ ?_
      rotate_left
      ·show Act.put _ (some 37) _ = _
       simp only [Act.put, sA_, sZ_, sS_, i64_w, i32_w]
       rfl
      refine pure_ (i := 6) (N := some 38) (v := ?_) (a' := ?_) (bA 11 127) rfl rfl (q17q HT_.out (by kernel_rfl)) (fun _ _ _ h => h) (Or.inl ⟨by rfl, ?_⟩) ?_ ?_
      rotate_left
      ·intro w'
       go_simp
       with_reducible rfl
      rotate_left
      ·simp only [Act.put, sA_, sZ_, sS_, i64_w, i32_w]
       rfl
      refine one_ (i := 7) (N := some 39) (bA 11 255) rfl rfl (q39q HT_.out (by kernel_rfl)) (by decide) (fun K hK => ?_)
      refine value_ (w1 := ?_) (v := ?_) (by rfl) rfl ?_ ?_
      rotate_left 2
      ·go_simp
       constructor
       ·rfl
       ·rfl
      refine hK.out _ _ ((q3q (q7q HQ3.out.pv _) 2).trans rfl) (fun hHeld => ?_)
      clear hK K
      refine norm_ (a' := ?_) ?_ ?_
      rotate_left
      ·show Act.put _ (some 39) _ = _
       simp only [Act.put, sA_, sZ_, sS_, i64_w, i32_w]
       rfl
      refine one_ (i := 8) (N := some 40) (bA 11 511) rfl rfl (q39q HT_.out (by kernel_rfl)) (by decide) (fun K hK => ?_)
      refine Kd.R_append_step k50 (w0 := w9) w.heap.size (by rfl) (.tmp 33) (.tmp 39) 43 50 (.agg #[(.bool false), (.int .i64 0)]) 16 rfl Try.underlying43 info50 rfl (by decide) (by decide) (.slice A us.length c) us (⟨(m1 == 1), m2⟩ : S50) [.bool (m1 == 1), .int .i64 m2] (fun k => vq < k ∧ ¬ False) (fun _ => False) rfl rfl ?aP (fun _ hk => hk.elim) ?aF ?aO (Below.refl _ _) ?aS ?aL ?_
      (case aP => exact k50_mkM _ _ _ (⟨(m1 == 1), m2⟩ : S50))
      (case aF => exact HQ3.out.fresh)
      (case aO => exact HQ3.out.r2)
      (case aS => exact HQ3.out.wl)
      (case aL => have := LMq.out; omega)
      intro v1 w10 hn hb hg hat
      rw [← HY.out] at hn
      have HP := Aq.mk (HQ3.out.push2 hn hb hg)
      obtain ⟨Ao, co, eo⟩ := Kd.q33q hn
      subst eo
      clear HQ3 hn hb hg hat
      refine hK.out _ _ ((q3q HP.out.pv 2).trans rfl) (fun hHeld => ?_)
      clear hK K
      refine norm_ (a' := ?_) ?_ ?_
      rotate_left
      ·show Act.put _ (some 40) _ = _
       simp only [Act.put, sA_, sZ_, sS_, i64_w, i32_w]
       rfl
      refine pure_ (i := 9) (N := some 41) (v := ?_) (a' := ?_) (bA 11 1023) rfl rfl (q17q HT_.out (by kernel_rfl)) (fun _ _ _ h => h) (Or.inl ⟨by rfl, ?_⟩) ?_ ?_
      rotate_left
      ·intro w'
       go_simp
       with_reducible rfl
      rotate_left
      ·simp only [Act.put, sA_, sZ_, sS_, i64_w, i32_w]
       rfl
      refine last_ (i := 10) (N := none) #[true, true, true, true, true, true, true, true, true, true, true] rfl rfl (q39q HT_.out (by kernel_rfl)) (by decide) (fun K hK => ?_)
      have hs40 : w10.cell? ⟨vq, 2, none⟩ = some (.slice A us.length c) := (q3q HP.out.pv 2).trans rfl
      have hfs40 := q1q HP.out.pv 2
      refine skip_ (w1 := ?_) (by rfl) rfl ?_ ?_
      rotate_left
      ·go_simp
       rfl
      refine hK.out _ _ ?_
      clear hK K
      refine done_ (done_of HT_.out (by kernel_rfl)) ?_
      try go_wp2
      go_roundg k2
      case measure => have := HK1.out; omega
      case rel => exact ⟨wrap64 (i + 1), _, _, _, _, rfl, AL, ⟨by have := HK1.out; omega⟩, ⟨HP.out.set 2 _ rfl⟩⟩
     | false =>
      have hj := HJ.out
      rw [fQ0.j1, if_neg Bool.false_ne_true] at hj
      obtain ⟨⟨n2, s2, b2⟩, B1, hj⟩ := Option.bind_eq_some_iff.mp hj
      dsimp only at hj
      replace B1 := Aq.mk B1
      have HL := Aq.mk hj
      clear hj HJ HX27
      go_wp2_with fail
      refine (fQ3.calls k2 g sr br 4096 n2 s2 b2 w0 _ HQ.out.st HQ.out.bel B1.out).mono ?_
      rintro e wd ⟨rfl, hi, hb, hk⟩
      have HQd := Aq.mk (HQ.out.call hi hb hk)
      clear hi hb hk HQ B1
      obtain ⟨v2, hv2⟩ : ∃ x, x = Value.slice A us.length c := ⟨_, rfl⟩
      rw [← hv2] at HQd
      clear hv2
      go_wp2_with fail
      go_loopg [7] k2 (fun kq v7 wr => ∃ (i : Int) (sr : ByteArray) (br : Bool) (v : Value) (ks : List S42), v7 = .int .i64 i ∧ Aq (fQ0.l1 kq n2 i sr br cr cs us ks = some (r1, r2, r3, r4, r5, r6, r7)) ∧ Aq (kq ≤ k2) ∧ Aq (PQ w0 w g vp vq (fun _ => False) sr br #[.int .i64 cr, .int .i64 cs, v2, v, .slice none 0 0] v2 v (.slice none 0 0) us ks [] wr))
      case atStart => exact ⟨0, s2, b2, .slice none 0 0, [], rfl, HL, ⟨Nat.le_refl _⟩, HQd⟩
      case round =>
       clear HQd HL HK1
       obtain ⟨i, sr, br, v, ks, rfl, HA, HK1, HQ⟩ := hrel
       obtain ⟨A, c, rfl⟩ := Kd.q33q HQ.out.r3
       cases gk with
       | zero => exact absurd HA.out (by simp [fQ0.l1])
       | succ k1 =>
        go_upto_region 11 with (fail)
        go_cut [53] (fun v53 wc => ∃ x53 : Bool, v53 = .bool x53 ∧ Aq (x53 = (decide (i < n2) && !br)) ∧ Aq (PQ w0 w g vp vq (fun _ => False) sr br #[.int .i64 cr, .int .i64 cs, v2, .slice A ks.length c, .slice none 0 0] v2 (.slice A ks.length c) (.slice none 0 0) us ks [] wc))
        case first =>
         have hcz0 := cellS68_0 HQ.out.st.1
         have hcz1 := cellS68_1 HQ.out.st.1
         have hfz0 := q1q HQ.out.st.1 0
         have hfz1 := q1q HQ.out.st.1 1
         by_cases hin : i < n2
         ·have hinb : decide (i < n2) = true := decide_eq_true hin
          go_wp2
          go_meet
          case rel => exact ⟨_, rfl, ⟨by simp [hinb]⟩, HQ⟩
         have hinb : decide (i < n2) = false := decide_eq_false hin
         go_wp2
         go_meet
         case rel => exact ⟨_, rfl, ⟨by simp [hinb]⟩, HQ⟩
        case rest =>
         clear HQ
         obtain ⟨x53, rfl, HX53, HQ⟩ := hcut
         cases x53 with
         | true =>
          obtain ⟨hin, hbr⟩ : i < n2 ∧ br = false := by have := HX53.out; simpa using this.symm
          subst hbr
          have hj := HA.out
          rw [fQ0.l1, if_pos hin, if_neg Bool.false_ne_true] at hj
          obtain ⟨⟨c1, c2, c3, s2, b2⟩, B2, hj⟩ := Option.bind_eq_some_iff.mp hj
          dsimp only at hj
          by_cases hly : ks.length < 4398046511104
          case neg =>
           rw [if_neg hly] at hj
           cases hj
          rw [if_pos hly] at hj
          obtain ⟨yn, hyn⟩ : ∃ y_, y_ = ks ++ [(⟨c1, c2, c3⟩ : S42)] := ⟨_, rfl⟩
          rw [← hyn] at hj
          have HY := Aq.mk hyn
          have AL := Aq.mk hj
          have LMq := Aq.mk hly
          replace B2 := Aq.mk B2
          clear hyn hj hly HA HX53 hin
          try go_wp2
          have HQ2 := Aq.mk HQ.out.drew
          clear HQ
          refine start_ (n := 8) (S := fun w' => w'.cell? ⟨vq, 3, none⟩ = some (.slice A ks.length c)) (ds := [7]) #[false, false, false, false, false, false, false, false] (by kernel_rfl) rfl rfl ((q3q HQ2.out.pv 3).trans rfl) (fun hHeld => ?_); refine with_tabW fQ0.tab13 fQ0.bits13 (fun HT_ HW_ => ?_)
          generalize World.drew _ = w8 at HQ2 hHeld ⊢
          refine pure_ (i := 0) (N := some 56) (v := ?_) (a' := ?_) (bA 8 1) rfl rfl (q17q HT_.out (by kernel_rfl)) (fun _ _ _ h => h) (Or.inl ⟨by rfl, ?_⟩) ?_ ?_
          rotate_left
          ·intro w'
           go_simp
           with_reducible rfl
          rotate_left
          ·simp only [Act.put, sA_, sZ_, sS_, i64_w, i32_w]
           rfl
          refine pure_ (i := 2) (N := some 58) (v := ?_) (a' := ?_) (bA 8 5) rfl rfl (q17q HT_.out (by kernel_rfl)) (fun _ _ _ h => h) (Or.inl ⟨by rfl, ?_⟩) ?_ ?_
          rotate_left
          ·intro w'
           go_simp
           with_reducible rfl
          rotate_left
          ·simp only [Act.put, sA_, sZ_, sS_, i64_w, i32_w]
           rfl
          refine take_ (i := 1) (N := some 57) (v := ?_) (a' := ?_) (bA 8 7) rfl rfl (q32q HT_.out HW_.out (by kernel_rfl)) (fun _ _ _ h => h) (Or.inl ⟨by rfl, ?_⟩) hHeld ?_ ?_
          rotate_left
          ·rintro w' s0
           go_simp
           with_reducible rfl
          rotate_left
          ·simp only [Act.put, sA_, sZ_, sS_, i64_w, i32_w]
           rfl
          refine one_ (i := 3) (N := some 59) (bA 8 15) rfl rfl (q39q HT_.out (by kernel_rfl)) (by decide) (fun K hK => ?_)
          refine goes_ Try.func51 (by kernel_rfl) rfl #[.pointer (some ⟨g, 0, none⟩)] (by rfl) rfl rfl (by (try simp only [List.map_toArray, List.map_cons, List.map_nil]); first | done | rfl) ?_
          with_reducible refine (fQ18.calls k1 g sr false c1 c2 c3 s2 b2 w0 _ HQ2.out.st HQ2.out.bel B2.out).mono ?_
          rintro e w9 ⟨rfl, hi, hb, hk⟩
          refine ⟨_, rfl, ?_⟩
          have HQ3 := Aq.mk (HQ2.out.call hi hb hk)
          clear HQ2 hi hb hk
          refine hK.out _ _ ((q3q HQ3.out.pv 3).trans rfl) (fun hHeld => ?_)
          clear hK K
          refine norm_ (a' := ?_) ?_ ?_
          rotate_left
          ·show Act.put _ (some 59) _ = _
           simp only [Act.put, sA_, sZ_, sS_, i64_w, i32_w]
           rfl
          refine one_ (i := 4) (N := some 60) (bA 8 31) rfl rfl (q39q HT_.out (by kernel_rfl)) (by decide) (fun K hK => ?_)
          refine value_ (w1 := ?_) (v := ?_) (by rfl) rfl ?_ ?_
          rotate_left 2
          ·go_simp
           constructor
           ·rfl
           ·rfl
          refine hK.out _ _ ((q3q (q7q HQ3.out.pv _) 3).trans rfl) (fun hHeld => ?_)
          clear hK K
          refine norm_ (a' := ?_) ?_ ?_
          rotate_left
          ·show Act.put _ (some 60) _ = _
           simp only [Act.put, sA_, sZ_, sS_, i64_w, i32_w]
           rfl
          refine one_ (i := 5) (N := some 61) (bA 8 63) rfl rfl (q39q HT_.out (by kernel_rfl)) (by decide) (fun K hK => ?_)
          refine Kd.R_append_step k42 (w0 := w9) w.heap.size (by rfl) (.tmp 57) (.tmp 60) 44 42 (.agg #[(.int .i64 0), (.int .i64 0), (.string ⟨#[]⟩)]) 32 rfl Try.underlying44 info42 rfl (by decide) (by decide) (.slice A ks.length c) ks (⟨c1, c2, c3⟩ : S42) [.int .i64 c1, .int .i64 c2, .string c3] (fun k => vq < k ∧ ¬ False) (fun _ => False) rfl rfl ?aP (fun _ hk => hk.elim) ?aF ?aO (Below.refl _ _) ?aS ?aL ?_
          (case aP => exact k42_mkM _ _ _ (⟨c1, c2, c3⟩ : S42))
          (case aF => exact HQ3.out.fresh)
          (case aO => exact HQ3.out.r3)
          (case aS => exact HQ3.out.wl)
          (case aL => have := LMq.out; omega)
          intro v1 w10 hn hb hg hat
          rw [← HY.out] at hn
          have HP := Aq.mk (HQ3.out.push3 hn hb hg)
          obtain ⟨Ao, co, eo⟩ := Kd.q33q hn
          subst eo
          clear HQ3 hn hb hg hat
          refine hK.out _ _ ((q3q HP.out.pv 3).trans rfl) (fun hHeld => ?_)
          clear hK K
          refine norm_ (a' := ?_) ?_ ?_
          rotate_left
          ·show Act.put _ (some 61) _ = _
           simp only [Act.put, sA_, sZ_, sS_, i64_w, i32_w]
           rfl
          refine pure_ (i := 6) (N := some 62) (v := ?_) (a' := ?_) (bA 8 127) rfl rfl (q17q HT_.out (by kernel_rfl)) (fun _ _ _ h => h) (Or.inl ⟨by rfl, ?_⟩) ?_ ?_
          rotate_left
          ·intro w'
           go_simp
           with_reducible rfl
          rotate_left
          ·simp only [Act.put, sA_, sZ_, sS_, i64_w, i32_w]
           rfl
          refine last_ (i := 7) (N := none) #[true, true, true, true, true, true, true, true] rfl rfl (q39q HT_.out (by kernel_rfl)) (by decide) (fun K hK => ?_)
          have hs40 : w10.cell? ⟨vq, 3, none⟩ = some (.slice A ks.length c) := (q3q HP.out.pv 3).trans rfl
          have hfs40 := q1q HP.out.pv 3
          refine skip_ (w1 := ?_) (by rfl) rfl ?_ ?_
          rotate_left
          ·go_simp
           rfl
          refine hK.out _ _ ?_
          clear hK K
          refine done_ (done_of HT_.out (by kernel_rfl)) ?_
          try go_wp2
          go_roundg k1
          case measure => have := HK1.out; omega
          case rel => exact ⟨wrap64 (i + 1), _, _, _, _, rfl, AL, ⟨by have := HK1.out; omega⟩, ⟨HP.out.set 3 _ rfl⟩⟩
         | false =>
          have hj : fQ0.j3 k1 sr br cr cs us ks = some (r1, r2, r3, r4, r5, r6, r7) := by
           have h1 := HA.out
           have hx := HX53.out
           rw [fQ0.l1] at h1
           by_cases hin : i < n2
           case neg =>
            rw [if_neg hin] at h1
            exact h1
           have hbr : br = true := by simpa [hin] using hx.symm
           rw [if_pos hin, if_pos hbr] at h1
           exact h1
          clear HA HX53
          have HJ := Aq.mk hj
          clear hj
          cases k1 with
          | zero => exact absurd HJ.out (by simp [fQ0.j3])
          | succ k3 =>
           have hj := HJ.out
           rw [fQ0.j3] at hj
           obtain ⟨⟨n3, s2, b2⟩, B1, hj⟩ := Option.bind_eq_some_iff.mp hj
           dsimp only at hj
           replace B1 := Aq.mk B1
           have HL := Aq.mk hj
           clear hj HJ
           go_wp2_with fail
           refine (fQ3.calls k3 g sr br 16384 n3 s2 b2 w0 _ HQ.out.st HQ.out.bel B1.out).mono ?_
           rintro e wd ⟨rfl, hi, hb, hk⟩
           have HQd := Aq.mk (HQ.out.call hi hb hk)
           clear hi hb hk HQ B1
           obtain ⟨v3, hv3⟩ : ∃ x, x = Value.slice A ks.length c := ⟨_, rfl⟩
           rw [← hv3] at HQd
           clear hv3
           go_wp2_with fail
           go_loopg [8] k3 (fun kq v8 wr => ∃ (i : Int) (sr : ByteArray) (br : Bool) (v : Value) (is : List S52), v8 = .int .i64 i ∧ Aq (fQ0.l2 kq n3 i sr br cr cs us ks is = some (r1, r2, r3, r4, r5, r6, r7)) ∧ Aq (kq ≤ k3) ∧ Aq (PQ w0 w g vp vq (fun _ => False) sr br #[.int .i64 cr, .int .i64 cs, v2, v3, v] v2 v3 v us ks is wr))
           case atStart => exact ⟨0, s2, b2, .slice none 0 0, [], rfl, HL, ⟨Nat.le_refl _⟩, HQd⟩
           case round =>
            clear HQd HL HK1
            obtain ⟨i, sr, br, v, is, rfl, HA, HK1, HQ⟩ := hrel
            obtain ⟨A, c, rfl⟩ := Kd.q33q HQ.out.r4
            cases gk with
            | zero => exact absurd HA.out (by simp [fQ0.l2])
            | succ k1 =>
             go_upto_region 16 with (fail)
             go_cut [74] (fun v74 wc => ∃ x74 : Bool, v74 = .bool x74 ∧ Aq (x74 = (decide (i < n3) && !br)) ∧ Aq (PQ w0 w g vp vq (fun _ => False) sr br #[.int .i64 cr, .int .i64 cs, v2, v3, .slice A is.length c] v2 v3 (.slice A is.length c) us ks is wc))
             case first =>
              have hcz0 := cellS68_0 HQ.out.st.1
              have hcz1 := cellS68_1 HQ.out.st.1
              have hfz0 := q1q HQ.out.st.1 0
              have hfz1 := q1q HQ.out.st.1 1
              by_cases hin : i < n3
              ·have hinb : decide (i < n3) = true := decide_eq_true hin
               go_wp2
               go_meet
               case rel => exact ⟨_, rfl, ⟨by simp [hinb]⟩, HQ⟩
              have hinb : decide (i < n3) = false := decide_eq_false hin
              go_wp2
              go_meet
              case rel => exact ⟨_, rfl, ⟨by simp [hinb]⟩, HQ⟩
             case rest =>
              clear HQ
              obtain ⟨x74, rfl, HX74, HQ⟩ := hcut
              have hj : fQ0.j5 k1 n3 i x74 sr br cr cs us ks is = some (r1, r2, r3, r4, r5, r6, r7) := by
               have h1 := HA.out
               rw [fQ0.l2] at h1
               rw [HX74.out]
               by_cases hin : i < n3
               ·rw [if_pos hin] at h1; rw [decide_eq_true hin, Bool.true_and]; exact h1
               rw [if_neg hin] at h1; rw [decide_eq_false hin, Bool.false_and]; exact h1
              clear HA
              have HJ := Aq.mk hj
              clear hj
              cases k1 with
              | zero => exact absurd HJ.out (by simp [fQ0.j5])
              | succ k2 =>
               cases x74 with
               | true =>
                have hj := HJ.out
                rw [fQ0.j5, if_pos rfl] at hj
                obtain ⟨⟨m1, s1, b1⟩, B1, hj⟩ := Option.bind_eq_some_iff.mp hj
                obtain ⟨⟨m2, s2, b2⟩, B2, hj⟩ := Option.bind_eq_some_iff.mp hj
                obtain ⟨⟨m3, s3, b3⟩, B3, hj⟩ := Option.bind_eq_some_iff.mp hj
                dsimp only at B2 B3 hj
                by_cases hly : is.length < 5864062014805
                case neg =>
                 rw [if_neg hly] at hj
                 cases hj
                rw [if_pos hly] at hj
                obtain ⟨yn, hyn⟩ : ∃ y_, y_ = is ++ [(⟨m1, m2, m3⟩ : S52)] := ⟨_, rfl⟩
                rw [← hyn] at hj
                have HY := Aq.mk hyn
                have AL := Aq.mk hj
                have LMq := Aq.mk hly
                replace B1 := Aq.mk B1
                replace B2 := Aq.mk B2
                replace B3 := Aq.mk B3
                clear hyn hj hly HJ HX74
                go_wp2_with fail
                refine (fQ3.calls k2 g sr br 36 m1 s1 b1 w0 _ HQ.out.st HQ.out.bel B1.out).mono ?_
                rintro e wd ⟨rfl, hi, hb, hk⟩
                have HQd := Aq.mk (HQ.out.call hi hb hk)
                clear hi hb hk HQ
                go_upto_region 19 with ((with_reducible refine q12q (N := 9) rfl ?_); refine q11q ?hg (N := 9) ?hd (cs := #[.int .i64 0, .int .i64 0, .int .i64 0]) (t := 52) ?hr ?_; (case hd => rfl); (case hg => rfl); (case hr => first | (go_simp; done) | (go_simp; rfl)); intro gb hgb wx hbox hbx; have HX := Aq.mk hbox; have HBX := Aq.mk hbx; have HGB := Aq.mk hgb; clear hbox hbx hgb; have cz0 : wx.cell? ⟨gb, 0, none⟩ = some (.int .i64 0) := (q3q HX.out 0).trans rfl; have cz1 : wx.cell? ⟨gb, 1, none⟩ = some (.int .i64 0) := (q3q HX.out 1).trans rfl; have cz2 : wx.cell? ⟨gb, 2, none⟩ = some (.int .i64 0) := (q3q HX.out 2).trans rfl; have fz0 := q1q HX.out 0; have fz1 := q1q HX.out 1; have fz2 := q1q HX.out 2)
                have HGQ := Aq.mk (show vq < gb from by have := q16q HQd.out.pv; have := HGB.out; omega)
                have HQ0 := (HQd.out.mark (gb := gb) (Nat.le_of_eq HGB.out.symm)).below HBX.out
                have HQ := Aq.mk (((HQ0.setx rfl HGQ.out 0 (.int .i64 m1)).setx rfl HGQ.out 1 (.int .i64 0)).setx rfl HGQ.out 2 (.int .i64 0))
                have HXB := Aq.mk (show (((wx.setCell ⟨gb, 0, none⟩ (.int .i64 m1)).setCell ⟨gb, 1, none⟩ (.int .i64 0)).setCell ⟨gb, 2, none⟩ (.int .i64 0)).heap[gb]? = some (.cells #[.int .i64 m1, .int .i64 0, .int .i64 0] 52 (0, 0)) from q14q (q14q (q14q (cs' := #[.int .i64 m1, .int .i64 0, .int .i64 0]) HX.out 0 _ rfl) (cs' := #[.int .i64 m1, .int .i64 0, .int .i64 0]) 1 _ rfl) 2 _ rfl)
                generalize (((wx.setCell ⟨gb, 0, none⟩ (.int .i64 m1)).setCell ⟨gb, 1, none⟩ (.int .i64 0)).setCell ⟨gb, 2, none⟩ (.int .i64 0)) = wy at HQ HXB ⊢
                clear HQ0 HQd HX HBX HGB cz0 cz1 cz2 fz0 fz1 fz2 B1
                go_wp2_with fail
                refine (fQ3.calls k2 g s1 b1 250 m2 s2 b2 w0 _ HQ.out.st HQ.out.bel B2.out).mono ?_
                rintro e wd ⟨rfl, hi, hb, hk⟩
                have HXd := Aq.mk ((hk.2 _ (q16q HXB.out) (by have := HQ.out.gp; have := HGQ.out; omega) (by simp)).trans HXB.out)
                have HQd := Aq.mk (HQ.out.call hi hb hk)
                clear hi hb hk HQ HXB B2
                have cz1 : wd.cell? ⟨gb, 1, none⟩ = some (.int .i64 0) := (q3q HXd.out 1).trans rfl
                have fz1 := q1q HXd.out 1
                go_upto_region 20 with (fail)
                have HQ := Aq.mk (HQd.out.setx rfl HGQ.out 1 (.int .i64 m2))
                have HXB := Aq.mk (show (wd.setCell ⟨gb, 1, none⟩ (.int .i64 m2)).heap[gb]? = some (.cells #[.int .i64 m1, .int .i64 m2, .int .i64 0] 52 (0, 0)) from q14q HXd.out 1 _ rfl)
                generalize (wd.setCell ⟨gb, 1, none⟩ (.int .i64 m2)) = wz at HQ HXB ⊢
                clear HQd HXd cz1 fz1
                go_wp2_with fail
                refine (fQ3.calls k2 g s2 b2 16384 m3 s3 b3 w0 _ HQ.out.st HQ.out.bel B3.out).mono ?_
                rintro e we ⟨rfl, hi, hb, hk⟩
                have HXd := Aq.mk ((hk.2 _ (q16q HXB.out) (by have := HQ.out.gp; have := HGQ.out; omega) (by simp)).trans HXB.out)
                have HQd := Aq.mk (HQ.out.call hi hb hk)
                clear hi hb hk HQ HXB B3
                have cz2 : we.cell? ⟨gb, 2, none⟩ = some (.int .i64 0) := (q3q HXd.out 2).trans rfl
                have fz2 := q1q HXd.out 2
                go_upto_region 21 with (fail)
                have HQ := Aq.mk (HQd.out.setx rfl HGQ.out 2 (.int .i64 m3))
                have HXB := Aq.mk (show (we.setCell ⟨gb, 2, none⟩ (.int .i64 m3)).heap[gb]? = some (.cells #[.int .i64 m1, .int .i64 m2, .int .i64 m3] 52 (0, 0)) from q14q HXd.out 2 _ rfl)
                generalize (we.setCell ⟨gb, 2, none⟩ (.int .i64 m3)) = wf at HQ HXB ⊢
                clear HQd HXd cz2 fz2
                have cp4 : wf.cell? ⟨vq, 4, none⟩ = some (.slice A is.length c) := (q3q HQ.out.pv 4).trans rfl
                have cz0 : wf.cell? ⟨gb, 0, none⟩ = some (.int .i64 m1) := (q3q HXB.out 0).trans rfl
                have cz1 : wf.cell? ⟨gb, 1, none⟩ = some (.int .i64 m2) := (q3q HXB.out 1).trans rfl
                have cz2 : wf.cell? ⟨gb, 2, none⟩ = some (.int .i64 m3) := (q3q HXB.out 2).trans rfl
                go_wp2_with (first | ((with_reducible refine gate_builtin (b := .append) (xs := #[.tmp 87, .tmp 89]) rfl ?_); at_builtin; (refine Kd.R_append k52 (w0 := wf) w.heap.size rfl (.tmp 87) (.tmp 89) 45 52 (.agg #[(.int .i64 0), (.int .i64 0), (.int .i64 0)]) 24 rfl Try.underlying45 info52 rfl (by decide) (by decide) (.slice A is.length c) is (⟨m1, m2, m3⟩ : S52) [.int .i64 m1, .int .i64 m2, .int .i64 m3] (fun k => vq < k ∧ ¬ k = gb) (fun _ => False) rfl ?aX ?aP (fun _ hk => hk.elim) ?aF HQ.out.r4 (Below.refl _ _) HQ.out.wl ?aL ?_); (case aX => first | rfl | (go_simp; done) | (go_simp; rfl)); (case aP => exact k52_mkM _ _ _ (⟨m1, m2, m3⟩ : S52)); (case aF => exact (fun k hk => ⟨Nat.lt_of_lt_of_le (q16q HQ.out.pv) hk, fun e => by have := q16q HXB.out; omega⟩)); (case aL => have := LMq.out; omega); (intro v1 w10 hn hb hg hat; rw [← HY.out] at hn; have HP := Aq.mk (HQ.out.push4 hn hb hg).unmark; obtain ⟨Ao, co, eo⟩ := Kd.q33q hn; subst eo; clear hn hb hg hat; have cp4' : w10.cell? ⟨vq, 4, none⟩ = some (.slice A is.length c) := (q3q HP.out.pv 4).trans rfl; have fp4 := q1q HP.out.pv 4)))
                go_roundg k2
                case measure => have := HK1.out; omega
                case rel => exact ⟨wrap64 (i + 1), _, _, _, _, rfl, AL, ⟨by have := HK1.out; omega⟩, ⟨HP.out.set 4 _ rfl⟩⟩
               | false =>
                have hj := HJ.out
                rw [fQ0.j5, if_neg Bool.false_ne_true] at hj
                simp only [Option.some.injEq, Prod.mk.injEq] at hj
                obtain ⟨rfl, rfl, rfl, rfl, rfl, rfl, rfl⟩ := hj
                clear HJ HX74
                obtain ⟨A2, d2, rfl⟩ := Kd.q33q HQ.out.r2
                obtain ⟨A3, d3, rfl⟩ := Kd.q33q HQ.out.r3
                have q0 : wc.cell? ⟨vq, 0, none⟩ = some (.int .i64 cr) := (q3q HQ.out.pv 0).trans rfl
                have q1 : wc.cell? ⟨vq, 1, none⟩ = some (.int .i64 cs) := (q3q HQ.out.pv 1).trans rfl
                have q2 : wc.cell? ⟨vq, 2, none⟩ = some (.slice A2 us.length d2) := (q3q HQ.out.pv 2).trans rfl
                have q3 : wc.cell? ⟨vq, 3, none⟩ = some (.slice A3 ks.length d3) := (q3q HQ.out.pv 3).trans rfl
                have q4 : wc.cell? ⟨vq, 4, none⟩ = some (.slice A is.length c) := (q3q HQ.out.pv 4).trans rfl
                have p0 : wc.cell? ⟨vp, 0, none⟩ = some (.int .i64 0) := (q3q HQ.out.pp 0).trans rfl
                have p1 : wc.cell? ⟨vp, 1, none⟩ = some (.int .i64 0) := (q3q HQ.out.pp 1).trans rfl
                have p2 : wc.cell? ⟨vp, 2, none⟩ = some (.slice none 0 0) := (q3q HQ.out.pp 2).trans rfl
                have p3 : wc.cell? ⟨vp, 3, none⟩ = some (.slice none 0 0) := (q3q HQ.out.pp 3).trans rfl
                have p4 : wc.cell? ⟨vp, 4, none⟩ = some (.slice none 0 0) := (q3q HQ.out.pp 4).trans rfl
                have e0 := q1q HQ.out.pp 0
                have e1 := q1q HQ.out.pp 1
                have e2 := q1q HQ.out.pp 2
                have e3 := q1q HQ.out.pp 3
                have e4 := q1q HQ.out.pp 4
                go_wp2_with fail
                refine bodyPost_ret (results_cell_row rfl _ _ vp 47 #[.int .i64 cr, .int .i64 cs, .slice A2 us.length d2, .slice A3 ks.length d3, .slice A is.length c] (0, 0) _ rfl (by
                 refine q14q (cs := #[.int .i64 cr, .int .i64 cs, .slice A2 us.length d2, .slice A3 ks.length d3, .slice none 0 0]) ?_ 4 _ rfl
                 refine q14q (cs := #[.int .i64 cr, .int .i64 cs, .slice A2 us.length d2, .slice none 0 0, .slice none 0 0]) ?_ 3 _ rfl
                 refine q14q (cs := #[.int .i64 cr, .int .i64 cs, .slice none 0 0, .slice none 0 0, .slice none 0 0]) ?_ 2 _ rfl
                 refine q14q (cs := #[.int .i64 cr, .int .i64 0, .slice none 0 0, .slice none 0 0, .slice none 0 0]) ?_ 1 _ rfl
                 refine q14q (cs := #[.int .i64 0, .int .i64 0, .slice none 0 0, .slice none 0 0, .slice none 0 0]) ?_ 0 _ rfl
                 exact HQ.out.pp) Try.underlying47 rfl (by kernel_rfl)) rfl ?_
                exact ⟨_, _, _, rfl, HQ.out.done⟩
end Go.Proofs.Ytkkgbbfojmnopaa.G
end
