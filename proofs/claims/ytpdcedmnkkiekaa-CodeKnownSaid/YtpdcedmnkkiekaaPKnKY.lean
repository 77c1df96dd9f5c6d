import Derived.Deep.RegionLaw
import Derived.WalkSpells
import Derived.Shelf.Abstract
import Derived.Test.YtpdcedmnkkiekaaPKnKX
import Derived.Test.YtpdcedmnkkiekaaPKnPC
import Derived.Lib.Hide
set_option linter.unusedVariables false
set_option linter.unusedSimpArgs false
section
namespace Go.Proofs.Ytpdcedmnkkiekaa.G
open Go.Shelf Go.RowKit Go.Proofs.YtpdcedmnkkiekaaW.PrintWords Go.Proofs.YtpdcedmnkkiekaaW.PrintLast Go.Proofs.YtpdcedmnkkiekaaW.PrintMore
set_option linter.unusedVariables false
set_option linter.unusedSimpArgs false
def KA (w : World) (wx : World) : Prop := Below w.heap.size w wx ∧ wx.heap[w.heap.size]? = some (.cells (okI.flatMap e33).toArray 33 (0, 0))
def KB (w : World) (gb : Nat) (wx : World) : Prop := Below w.heap.size w wx ∧ wx.heap[w.heap.size]? = some (.cells (okI.flatMap e33).toArray 33 (0, 0)) ∧ w.heap.size < gb ∧ wx.heap[gb]? = some (.cells (badI.flatMap e33).toArray 33 (0, 0))
theorem KB.below {w wx w1 : World} {gb : Nat} (h : KB w gb wx) (hb : Below wx.heap.size wx w1) : KB w gb w1 := ⟨h.1.trans (hb.mono h.1.size), blk_below h.2.1 hb, h.2.2.1, blk_below h.2.2.2 hb⟩
theorem KB.ok {w wx : World} {gb i : Nat} (h : KB w gb wx) (hi : i < 36) : wx.cell? ⟨w.heap.size, i * 3, none⟩ = some (.int .i64 (knI i).f0) ∧ wx.cell? ⟨w.heap.size, i * 3 + 1, none⟩ = some (.int .i64 (knI i).f1) ∧ wx.cell? ⟨w.heap.size, i * 3 + 2, none⟩ = some (.int .i64 (knI i).f2) := by
  have e36 : okI.length = 36 := by decide
  obtain ⟨ad, he, h0, h1, h2⟩ := at_T33 (C33b h.2.1 rfl (by decide)) (i : Int) (by omega) (by omega)
  injection he with he
  subst he
  unfold knI
  rw [if_pos hi]
  simp only [add_at, Nat.zero_add, Int.toNat_natCast] at h0 h1 h2
  exact ⟨h0, h1, h2⟩
theorem KB.bad {w wx : World} {gb m : Nat} (h : KB w gb wx) (hi : m < 39) : wx.cell? ⟨gb, m * 3, none⟩ = some (.int .i64 (knI (36 + m)).f0) ∧ wx.cell? ⟨gb, m * 3 + 1, none⟩ = some (.int .i64 (knI (36 + m)).f1) ∧ wx.cell? ⟨gb, m * 3 + 2, none⟩ = some (.int .i64 (knI (36 + m)).f2) := by
  have e39 : badI.length = 39 := by decide
  obtain ⟨ad, he, h0, h1, h2⟩ := at_T33 (C33b h.2.2.2 rfl (by decide)) (m : Int) (by omega) (by omega)
  injection he with he
  subst he
  unfold knI
  rw [if_neg (by omega), show ((36 + m : Nat) : Int) - 36 = (m : Int) by omega]
  simp only [add_at, Nat.zero_add, Int.toNat_natCast] at h0 h1 h2
  exact ⟨h0, h1, h2⟩
def c0 (s0 : Value) (b0 : Nat) : List Value := [.int .i64 0, .int .i64 1, s0, .slice none 0 0, .slice (some ⟨b0, 0, none⟩) 1 1]
def c1 (bu bc : Nat) : List Value := [.int .i64 0, .int .i64 1, .slice (some ⟨bu, 0, none⟩) 2 2, .slice none 0 0, .slice (some ⟨bc, 0, none⟩) 2 2]
structure UpAt (w W : World) (bx r cp b0 bu bc : Nat) (s0 : Value) (x y : Int) : Prop where
  bel : Below w.heap.size w W
  kx : W.heap[bx]? = some (.cells #[.slice (some ⟨r, 0, none⟩) 2 cp] 28 (0, 0))
  row : Kd.N (Kd.raw 5) 41 W w.heap.size (fun _ => True) (.slice (some ⟨r, 0, none⟩) 2 cp) [c0 s0 b0, c1 bu bc]
  k0 : W.heap[b0]? = some (.cells #[.int .i64 0, .int .i64 0, .int .i64 0] 33 (0, 0))
  ku : W.heap[bu]? = some (.cells #[.bool true, .int .i64 x, .bool false, .int .i64 y] 48 (0, 0))
  kc : W.heap[bc]? = some (.cells #[.int .i64 6, .int .i64 0, .int .i64 1, .int .i64 7, .int .i64 0, .int .i64 0] 33 (0, 0))
  hx : w.heap.size ≤ bx
  hu : w.heap.size ≤ bu
theorem UpAt.below {w W W1 : World} {bx r cp b0 bu bc : Nat} {s0 : Value} {x y : Int} (h : UpAt w W bx r cp b0 bu bc s0 x y) (hb : Below W.heap.size W W1) : UpAt w W1 bx r cp b0 bu bc s0 x y :=
  ⟨h.bel.trans (hb.mono h.bel.size), blk_below h.kx hb, Kd.N_below h.row hb, blk_below h.k0 hb, blk_below h.ku hb, blk_below h.kc hb, h.hx, h.hu⟩
theorem UpAt.hr {w W : World} {bx r cp b0 bu bc : Nat} {s0 : Value} {x y : Int} (h : UpAt w W bx r cp b0 bu bc s0 x y) : w.heap.size ≤ r ∧ r < W.heap.size ∧ (r ≠ bx ∧ r ≠ b0 ∧ r ≠ bu ∧ r ≠ bc) := by
  refine ⟨Kd.N_base h.row r rfl, Kd.N_lt h.row r rfl, ?_⟩
  obtain ⟨cells, ht⟩ := Kd.N_typed h.row r rfl
  refine ⟨fun e => ?_, fun e => ?_, fun e => ?_, fun e => ?_⟩
  · have h2 := h.kx; rw [← e, ht] at h2; simp at h2
  · have h2 := h.k0; rw [← e, ht] at h2; simp at h2
  · have h2 := h.ku; rw [← e, ht] at h2; simp at h2
  · have h2 := h.kc; rw [← e, ht] at h2; simp at h2
theorem UpAt.cells {w W : World} {bx r cp b0 bu bc : Nat} {s0 : Value} {x y : Int} (h : UpAt w W bx r cp b0 bu bc s0 x y) :
    W.cell? ⟨bx, 0, none⟩ = some (.slice (some ⟨r, 0, none⟩) 2 cp) ∧ W.cell? ⟨r, 2, none⟩ = some s0 ∧ W.frozen? ⟨r, 2, none⟩ = false ∧ W.cell? ⟨r, 7, none⟩ = some (.slice (some ⟨bu, 0, none⟩) 2 2) ∧
    W.cell? ⟨bu, 1, none⟩ = some (.int .i64 x) ∧ W.frozen? ⟨bu, 1, none⟩ = false ∧ W.cell? ⟨bu, 3, none⟩ = some (.int .i64 y) ∧ W.frozen? ⟨bu, 3, none⟩ = false := by
  obtain ⟨a0, _, f0, g0, z0⟩ := Kd.N_elem h.row [] 0 (by decide) (by decide)
  obtain ⟨a1, _, f1, g1, z1⟩ := Kd.N_elem h.row [] 1 (by decide) (by decide)
  have e0 : a0 = c0 s0 b0 := (Kd.FK_now f0).1
  have e1 : a1 = c1 bu bc := (Kd.FK_now f1).1
  subst e0 e1
  exact ⟨(blk_cell h.kx 0).trans rfl, g0 2 _ rfl, z0 2, g1 2 _ rfl, (blk_cell h.ku 1).trans rfl, blk_frozen h.ku 1, (blk_cell h.ku 3).trans rfl, blk_frozen h.ku 3⟩
theorem UpAt.set0 {w W : World} {bx r cp b0 bu bc : Nat} {s0 s1 : Value} {x y : Int} (h : UpAt w W bx r cp b0 bu bc s0 x y) (h1 : s1.oneCell' = true) : UpAt w (W.setCell ⟨r, 2, none⟩ s1) bx r cp b0 bu bc s1 x y := by
  obtain ⟨g1, g2, n1, n2, n3, n4⟩ := h.hr
  have hk : ∀ k, k ≠ r → (W.setCell ⟨r, 2, none⟩ s1).heap[k]? = W.heap[k]? := fun k hk => Below.heap_setCell W ⟨r, 2, none⟩ s1 k hk
  obtain ⟨a0, hl, f0, gc0, z0⟩ := Kd.N_elem h.row [] 0 (by decide) (by decide)
  have e0 : a0 = c0 s0 b0 := (Kd.FK_now f0).1
  subst e0
  have hseg := (Kd.N_seg h.row 0 (by decide) (by decide) (c := c0 s0 b0) (seg := [s1]) (j := 2) rfl gc0 (show 2 + 1 ≤ 5 by decide) (x' := c0 s1 b0) (okp := fun _ => False) (fun _ _ => ⟨rfl, rfl, fun u hu => by
    have : u ∈ c0 s1 b0 := hu
    simp only [c0, List.mem_cons, List.not_mem_nil, or_false] at this
    rcases this with e | e | e | e | e <;> subst e <;> first | rfl | exact h1⟩) (fun _ hk => hk.elim)).1
  exact ⟨h.bel.setCell g1 _, (hk _ n1.symm).trans h.kx, hseg, (hk _ n2.symm).trans h.k0, (hk _ n3.symm).trans h.ku, (hk _ n4.symm).trans h.kc, h.hx, h.hu⟩
theorem UpAt.setu {w W : World} {bx r cp b0 bu bc : Nat} {s0 : Value} {x y : Int} (h : UpAt w W bx r cp b0 bu bc s0 x y) (j : Nat) (u : Value) (x' y' : Int) (he : #[Value.bool true, .int .i64 x, .bool false, .int .i64 y].setIfInBounds j u = #[.bool true, .int .i64 x', .bool false, .int .i64 y']) :
    UpAt w (W.setCell ⟨bu, j, none⟩ u) bx r cp b0 bu bc s0 x' y' := by
  obtain ⟨g1, g2, n1, n2, n3, n4⟩ := h.hr
  have hk : ∀ k, k ≠ bu → (W.setCell ⟨bu, j, none⟩ u).heap[k]? = W.heap[k]? := fun k hk => Below.heap_setCell W ⟨bu, j, none⟩ u k hk
  have m1 : bx ≠ bu := fun e => by have h2 := h.kx; rw [e, h.ku] at h2; simp at h2
  have m2 : b0 ≠ bu := fun e => by have h2 := h.k0; rw [e, h.ku] at h2; simp at h2
  have m3 : bc ≠ bu := fun e => by have h2 := h.kc; rw [e, h.ku] at h2; simp at h2
  obtain ⟨h0, rows, hl, hR, hf⟩ := h.row
  have m4 : ∀ k, some k = (Value.slice (some ⟨r, 0, none⟩) 2 cp).ownBlock → k ≠ bu := fun k hk2 e => by
    have e2 : k = r := by simpa [Value.ownBlock] using hk2
    exact n3 (e2.symm.trans e)
  refine ⟨h.bel.setCell h.hu _, (hk _ m1).trans h.kx, ⟨h0, rows, hl, Kd.R_step hR (fun k hk2 _ => hk k (m4 k hk2)), fun j x c hx hc => ?_⟩, (hk _ m2).trans h.k0, blk_put h.ku j u he, (hk _ m3).trans h.kc, h.hx, h.hu⟩
  have h9 := Kd.FK_now (hf j x c hx hc)
  exact fun W' _ => h9
def upL (l0 : List S48) (x y : Int) : List S41 := [⟨0, 1, l0, [], [⟨0, 0, 0⟩]⟩, ⟨0, 1, [⟨true, x⟩, ⟨false, y⟩], [], [⟨6, 0, 1⟩, ⟨7, 0, 0⟩]⟩]
theorem UpAt.C {w W : World} {bx r cp b0 bu bc : Nat} {A0 : Option Addr} {cp0 : Nat} {l0 : List S48} {x y : Int} (h : UpAt w W bx r cp b0 bu bc (.slice A0 l0.length cp0) x y) (hc : l0.length ≤ cp0) (hl : Kd.C k48 W A0 l0.length l0) :
    Kd.C k41 W (some ⟨r, 0, none⟩) 2 (upL l0 x y) ∧ 2 ≤ cp := by
  have hr := Kd.N_reads' h.row
  refine ⟨C_of_raw hr.2.2 rfl (fun j p c hp hcs => ?_), hr.2.1⟩
  have hn46 : Kd.C k46 W none ([] : List S46).length [] := nil46 W
  rcases j with _ | _ | j
  · obtain rfl : ⟨0, 1, l0, [], [⟨0, 0, 0⟩]⟩ = p := by simpa [upL] using hp
    obtain rfl : c0 (.slice A0 l0.length cp0) b0 = c := by simpa using hcs
    exact k41_mk W ⟨0, 1, l0, [], [⟨0, 0, 0⟩]⟩ hc hl (Nat.le_refl 0) hn46 (Nat.le_refl 1) (C33b (l := [⟨0, 0, 0⟩]) h.k0 rfl (by decide))
  · obtain rfl : ⟨0, 1, [⟨true, x⟩, ⟨false, y⟩], [], [⟨6, 0, 1⟩, ⟨7, 0, 0⟩]⟩ = p := by simpa [upL] using hp
    obtain rfl : c1 bu bc = c := by simpa using hcs
    exact k41_mk W ⟨0, 1, [⟨true, x⟩, ⟨false, y⟩], [], [⟨6, 0, 1⟩, ⟨7, 0, 0⟩]⟩ (Nat.le_refl 2) (C48b (l := [⟨true, x⟩, ⟨false, y⟩]) h.ku rfl (show 2 ≤ 1000000 by decide)) (Nat.le_refl 0) hn46 (Nat.le_refl 2) (C33b (l := [⟨6, 0, 1⟩, ⟨7, 0, 0⟩]) h.kc rfl (by decide))
  · simp at hcs
theorem up_a : code_Check.f 99 (upL [] 249 59) = some 0 := by decide +kernel
theorem up_b : code_Check.f 99 (upL [⟨false, 0⟩] 249 59) = some 2 := by decide +kernel
theorem up_c : code_Check.f 99 (upL [] 250 59) = some 2 := by decide +kernel
theorem up_d : code_Check.f 99 (upL [] 0 60) = some 2 := by decide +kernel
structure CnAt (w W : World) (bx r b0 : Nat) (s3 : Value) : Prop where
  bel : Below w.heap.size w W
  kx : W.heap[bx]? = some (.cells #[.slice (some ⟨r, 0, none⟩) 1 1] 28 (0, 0))
  kr : W.heap[r]? = some (.cells #[.int .i64 0, .int .i64 1, .slice none 0 0, s3, .slice (some ⟨b0, 0, none⟩) 1 1] 41 (0, 0))
  k0 : W.heap[b0]? = some (.cells #[.int .i64 0, .int .i64 0, .int .i64 0] 33 (0, 0))
  hr : w.heap.size ≤ r
  hx : w.heap.size ≤ bx
theorem CnAt.below {w W W1 : World} {bx r b0 : Nat} {s3 : Value} (h : CnAt w W bx r b0 s3) (hb : Below W.heap.size W W1) : CnAt w W1 bx r b0 s3 :=
  ⟨h.bel.trans (hb.mono h.bel.size), blk_below h.kx hb, blk_below h.kr hb, blk_below h.k0 hb, h.hr, h.hx⟩
theorem CnAt.cells {w W : World} {bx r b0 : Nat} {s3 : Value} (h : CnAt w W bx r b0 s3) : W.cell? ⟨bx, 0, none⟩ = some (.slice (some ⟨r, 0, none⟩) 1 1) ∧ W.cell? ⟨r, 3, none⟩ = some s3 ∧ W.frozen? ⟨r, 3, none⟩ = false :=
  ⟨(blk_cell h.kx 0).trans rfl, (blk_cell h.kr 3).trans rfl, blk_frozen h.kr 3⟩
theorem CnAt.set {w W : World} {bx r b0 : Nat} {s3 : Value} (h : CnAt w W bx r b0 s3) (u : Value) : CnAt w (W.setCell ⟨r, 3, none⟩ u) bx r b0 u := by
  have n1 : bx ≠ r := fun e => by have h2 := h.kx; rw [e, h.kr] at h2; simp at h2
  have n2 : b0 ≠ r := fun e => by have h2 := h.k0; rw [e, h.kr] at h2; simp at h2
  exact ⟨h.bel.setCell h.hr _, blk_far h.kx n1 _, blk_put h.kr 3 u rfl, blk_far h.k0 n2 _, h.hr, h.hx⟩
def cnL (c : S46) : List S41 := [⟨0, 1, [], [c], [⟨0, 0, 0⟩]⟩]
theorem CnAt.C {w W : World} {bx r b0 bc : Nat} {c : S46} (h : CnAt w W bx r b0 (.slice (some ⟨bc, 0, none⟩) 1 1)) (hc : W.heap[bc]? = some (.cells #[.int .i64 c.f0, .int .i64 c.f1, .string c.f2] 46 (0, 0))) : Kd.C k41 W (some ⟨r, 0, none⟩) 1 (cnL c) := by
  have hk : k41.K W ⟨0, 1, [], [c], [⟨0, 0, 0⟩]⟩ [.int .i64 0, .int .i64 1, .slice none 0 0, .slice (some ⟨bc, 0, none⟩) 1 1, .slice (some ⟨b0, 0, none⟩) 1 1] :=
    k41_mk W ⟨0, 1, [], [c], [⟨0, 0, 0⟩]⟩ (Nat.le_refl 0) (nil48 W) (Nat.le_refl 1) (C46b (l := [c]) hc rfl (show 1 ≤ 1000000 by decide)) (Nat.le_refl 1) (C33b (l := [⟨0, 0, 0⟩]) h.k0 rfl (by decide))
  exact C41b (l := [⟨0, 1, [], [c], [⟨0, 0, 0⟩]⟩]) (fun _ => [.int .i64 0, .int .i64 1, .slice none 0 0, .slice (some ⟨bc, 0, none⟩) 1 1, .slice (some ⟨b0, 0, none⟩) 1 1]) h.kr rfl (fun _ => rfl) (fun x hx => by rw [List.mem_singleton.1 hx]; exact hk) (show 1 ≤ 1000000 by decide)
theorem cn_f : code_Check.f 99 (cnL ⟨3, 0, ⟨#[120]⟩⟩) = some 2 := by decide +kernel
theorem cn_g : code_Check.f 99 (cnL ⟨5, 1, ⟨#[]⟩⟩) = some 2 := by decide +kernel
theorem N_raw_far {W : World} {base g n cp : Nat} {ok : Nat → Prop} {xs : List (List Value)} (h : Kd.N (Kd.raw 5) 41 W base ok (.slice (some ⟨g, 0, none⟩) n cp) xs) {p : Addr} (hp : g ≠ p.block) (u : Value) : Kd.N (Kd.raw 5) 41 (W.setCell p u) base ok (.slice (some ⟨g, 0, none⟩) n cp) xs := by
  obtain ⟨h0, rows, hl, hR, hf⟩ := h
  refine ⟨h0, rows, hl, Kd.R_step hR (fun k hk2 _ => Below.heap_setCell W p u k (fun e => hp ((by simpa [Value.ownBlock] using hk2 : k = g).symm.trans e))), fun j x c hx hc => ?_⟩
  have h9 := Kd.FK_now (hf j x c hx hc)
  exact fun W' _ => h9
theorem up_of {w wc w1 : World} {bx r b0 g cp : Nat} (h : CnAt w wc bx r b0 (.slice none 0 0)) (hb : Below w.heap.size wc w1)
    (hg : ((wc.alloc (.cells #[.bool true, .int .i64 249, .bool false, .int .i64 59] 48)).alloc (.cells #[.int .i64 6, .int .i64 0, .int .i64 1, .int .i64 7, .int .i64 0, .int .i64 0] 33)).grownBy w1 (some r))
    (hN : Kd.N (Kd.raw 5) 41 w1 w.heap.size (fun _ => True) (.slice (some ⟨g, 0, none⟩) 2 cp) [c0 (.slice none 0 0) b0, c1 wc.heap.size (wc.heap.size + 1)]) :
    UpAt w (w1.setCell ⟨bx, 0, none⟩ (.slice (some ⟨g, 0, none⟩) 2 cp)) bx g cp b0 wc.heap.size (wc.heap.size + 1) (.slice none 0 0) 249 59 := by
  have nx : bx ≠ r := fun e => by have h2 := h.kx; rw [e, h.kr] at h2; simp at h2
  have n0 : b0 ≠ r := fun e => by have h2 := h.k0; rw [e, h.kr] at h2; simp at h2
  have n2 : bx ≠ b0 := fun e => by have h2 := h.kx; rw [e, h.k0] at h2; simp at h2
  have lx := blk_lt h.kx
  have lr := blk_lt h.kr
  have l0 := blk_lt h.k0
  have hk : ∀ k o, ((wc.alloc (.cells #[.bool true, .int .i64 249, .bool false, .int .i64 59] 48)).alloc (.cells #[.int .i64 6, .int .i64 0, .int .i64 1, .int .i64 7, .int .i64 0, .int .i64 0] 33)).heap[k]? = some o → k ≠ r → w1.heap[k]? = some o := fun k o hk hne =>
    (hg.block k (blk_lt hk) (fun e => hne (by injection e))).trans hk
  have kx1 := hk bx _ (blk_alloc (blk_alloc h.kx _) _) nx
  have k01 := hk b0 _ (blk_alloc (blk_alloc h.k0 _) _) n0
  have ku1 := hk wc.heap.size _ (blk_alloc (blk_new _ _) _) (by omega)
  have kc1 := hk (wc.heap.size + 1) _ (blk_new' (by simp)) (by omega)
  have hgx : g ≠ bx := fun e => by
    obtain ⟨cells, ht⟩ := Kd.N_typed hN g rfl
    rw [e, kx1] at ht
    simp at ht
  exact {
    bel := (h.bel.trans hb).setCell h.hx _
    kx := blk_put kx1 0 _ rfl
    row := N_raw_far hN (p := ⟨bx, 0, none⟩) hgx _
    k0 := blk_far k01 (fun e => n2 e.symm) _
    ku := blk_far ku1 (by show wc.heap.size ≠ bx; omega) _
    kc := blk_far kc1 (by show wc.heap.size + 1 ≠ bx; omega) _
    hx := h.hx
    hu := h.bel.size }
theorem cn_e {txt : ByteArray} (h : txt.size = 4097) : ∃ kk, code_Check.f kk (cnL ⟨5, 0, txt⟩) = some 3 := by
  obtain ⟨K, hK⟩ := Z.c_check (cnL ⟨5, 0, txt⟩)
  refine ⟨K, (hK K (Nat.le_refl _)).trans (congrArg some ?_)⟩
  simp [cnL, Z.checkS, Z.checkS.go, Z.protoS, Z.okC, Z.smC, h]
theorem one_m {w : World} {A : Option Addr} {cp n : Nat} {l : List S33} (hC : Kd.C k33 w A l.length l) (hc : l.length ≤ cp) (hn : l.length = n) :
    Kd.C k41 (w.alloc (.cells #[.int .i64 0, .int .i64 1, .slice none 0 0, .slice none 0 0, .slice A n cp] 41)) (some ⟨w.heap.size, 0, none⟩) 1 [⟨0, 1, [], [], l⟩] := by
  subst hn
  exact C41b (l := [⟨0, 1, [], [], l⟩]) (fun _ => [.int .i64 0, .int .i64 1, .slice none 0 0, .slice none 0 0, .slice A l.length cp]) (blk_new _ _) rfl (fun _ => rfl) (fun x hx => by
    rw [List.mem_singleton.1 hx]
    exact k41_mk _ ⟨0, 1, [], [], l⟩ (Nat.le_refl 0) (nil48 _) (Nat.le_refl 0) (nil46 _) hc (Kd.C_below hC (below_alloc (Below.refl _ _) _))) (show 1 ≤ 1000000 by decide)
theorem kn_m : ∃ kk, code_Check.f kk [⟨0, 1, [], [], List.replicate 16385 ⟨0, 0, 0⟩⟩] = some 3 := by
  have hl : (List.replicate 16385 (⟨0, 0, 0⟩ : S33)).length = 16385 := List.length_replicate ..
  generalize List.replicate 16385 (⟨0, 0, 0⟩ : S33) = l at hl ⊢
  obtain ⟨K, hK⟩ := Z.c_check [⟨0, 1, [], [], l⟩]
  refine ⟨K, (hK K (Nat.le_refl _)).trans (congrArg some ?_)⟩
  simp [Z.checkS, Z.checkS.go, Z.protoS, hl]
theorem okI_flat : #[.int .i64 0, .int .i64 2, .int .i64 0, .int .i64 1, .int .i64 2, .int .i64 1, .int .i64 2, .int .i64 0, .int .i64 1, .int .i64 3, .int .i64 2, .int .i64 2, .int .i64 4, .int .i64 0, .int .i64 2, .int .i64 5, .int .i64 2, .int .i64 0, .int .i64 8, .int .i64 2, .int .i64 0, .int .i64 9, .int .i64 1, .int .i64 2, .int .i64 10, .int .i64 1, .int .i64 2, .int .i64 11, .int .i64 0, .int .i64 1, .int .i64 12, .int .i64 0, .int .i64 1, .int .i64 13, .int .i64 2, .int .i64 0, .int .i64 14, .int .i64 1, .int .i64 0, .int .i64 15, .int .i64 0, .int .i64 0, .int .i64 16, .int .i64 0, .int .i64 0, .int .i64 17, .int .i64 2, .int .i64 1, .int .i64 18, .int .i64 0, .int .i64 2, .int .i64 18, .int .i64 2, .int .i64 0, .int .i64 19, .int .i64 2, .int .i64 0, .int .i64 20, .int .i64 0, .int .i64 1, .int .i64 21, .int .i64 2, .int .i64 1, .int .i64 22, .int .i64 2, .int .i64 0, .int .i64 23, .int .i64 2, .int .i64 0, .int .i64 24, .int .i64 2, .int .i64 0, .int .i64 25, .int .i64 1, .int .i64 9, .int .i64 26, .int .i64 1, .int .i64 0, .int .i64 27, .int .i64 1, .int .i64 0, .int .i64 28, .int .i64 1, .int .i64 0, .int .i64 29, .int .i64 1, .int .i64 0, .int .i64 30, .int .i64 2, .int .i64 0, .int .i64 31, .int .i64 2, .int .i64 0, .int .i64 32, .int .i64 2, .int .i64 0, .int .i64 33, .int .i64 1, .int .i64 1, .int .i64 34, .int .i64 1, .int .i64 1, .int .i64 35, .int .i64 2, .int .i64 1, .int .i64 36, .int .i64 0, .int .i64 0] = (okI.flatMap e33).toArray := by kernel_rfl
theorem badI_flat : #[.int .i64 37, .int .i64 0, .int .i64 0, .int .i64 (-1), .int .i64 0, .int .i64 0, .int .i64 0, .int .i64 3, .int .i64 0, .int .i64 0, .int .i64 (-1), .int .i64 0, .int .i64 0, .int .i64 0, .int .i64 1, .int .i64 1, .int .i64 0, .int .i64 2, .int .i64 1, .int .i64 0, .int .i64 (-1), .int .i64 2, .int .i64 0, .int .i64 2, .int .i64 3, .int .i64 0, .int .i64 3, .int .i64 4, .int .i64 3, .int .i64 0, .int .i64 6, .int .i64 0, .int .i64 0, .int .i64 7, .int .i64 0, .int .i64 0, .int .i64 9, .int .i64 0, .int .i64 (-1), .int .i64 11, .int .i64 0, .int .i64 0, .int .i64 12, .int .i64 0, .int .i64 2, .int .i64 14, .int .i64 2, .int .i64 0, .int .i64 14, .int .i64 0, .int .i64 1, .int .i64 15, .int .i64 1, .int .i64 0, .int .i64 16, .int .i64 1, .int .i64 0, .int .i64 17, .int .i64 0, .int .i64 0, .int .i64 17, .int .i64 0, .int .i64 2, .int .i64 18, .int .i64 1, .int .i64 2, .int .i64 18, .int .i64 0, .int .i64 (-1), .int .i64 18, .int .i64 0, .int .i64 21, .int .i64 19, .int .i64 0, .int .i64 1, .int .i64 20, .int .i64 0, .int .i64 2, .int .i64 20, .int .i64 1, .int .i64 0, .int .i64 21, .int .i64 0, .int .i64 2, .int .i64 25, .int .i64 0, .int .i64 10, .int .i64 25, .int .i64 2, .int .i64 0, .int .i64 26, .int .i64 2, .int .i64 0, .int .i64 27, .int .i64 2, .int .i64 0, .int .i64 28, .int .i64 2, .int .i64 0, .int .i64 29, .int .i64 2, .int .i64 0, .int .i64 33, .int .i64 2, .int .i64 0, .int .i64 34, .int .i64 0, .int .i64 2, .int .i64 35, .int .i64 0, .int .i64 2, .int .i64 36, .int .i64 1, .int .i64 0, .int .i64 36, .int .i64 0, .int .i64 1] = (badI.flatMap e33).toArray := by kernel_rfl
theorem c1_one (bu bc : Nat) : ∀ u ∈ c1 bu bc, u.oneCell' = true := by
  intro u hu
  simp only [c1, List.mem_cons, List.not_mem_nil, or_false] at hu
  rcases hu with rfl | rfl | rfl | rfl | rfl <;> rfl
theorem c0_one (b0 : Nat) : ∀ u ∈ c0 (.slice none 0 0) b0, u.oneCell' = true := by
  intro u hu
  simp only [c0, List.mem_cons, List.not_mem_nil, or_false] at hu
  rcases hu with rfl | rfl | rfl | rfl | rfl <;> rfl
theorem kn_h : code_Check.f 99 (List.replicate 257 z41) = some 3 := by decide +kernel
theorem kn_i : code_Check.f 99 [⟨2, 1, [], [], [⟨0, 0, 0⟩]⟩] = some 2 := by decide +kernel
theorem kn_j : code_Check.f 99 [⟨21, 30, [], [], [⟨0, 0, 0⟩]⟩] = some 3 := by decide +kernel
theorem kn_k : code_Check.f 99 [⟨-1, 300, [], [], [⟨0, 0, 0⟩]⟩] = some 2 := by decide +kernel
theorem kn_l : code_Check.f 99 [⟨0, 1, [], [], []⟩] = some 2 := by decide +kernel
theorem lit_K (W : World) (a b : Int) (c : Nat) (h : W.heap[c]? = some (.cells #[.int .i64 0, .int .i64 0, .int .i64 0] 33 (0, 0))) {r : Nat} (hr : W.heap[r]? = some (.cells #[.int .i64 a, .int .i64 b, .slice none 0 0, .slice none 0 0, .slice (some ⟨c, 0, none⟩) 1 1] 41 (0, 0))) :
    Kd.C k41 W (some ⟨r, 0, none⟩) 1 [⟨a, b, [], [], [⟨0, 0, 0⟩]⟩] :=
  C41b (l := [⟨a, b, [], [], [⟨0, 0, 0⟩]⟩]) (fun _ => [.int .i64 a, .int .i64 b, .slice none 0 0, .slice none 0 0, .slice (some ⟨c, 0, none⟩) 1 1]) hr rfl (fun _ => rfl) (fun x hx => by
    rw [List.mem_singleton.1 hx]
    exact k41_mk _ ⟨a, b, [], [], [⟨0, 0, 0⟩]⟩ (Nat.le_refl 0) (nil48 _) (Nat.le_refl 0) (nil46 _) (Nat.le_refl 1) (C33b (l := [⟨0, 0, 0⟩]) h rfl (by decide))) (show 1 ≤ 1000000 by decide)
theorem lit_K0 (W : World) (a b : Int) {r : Nat} (hr : W.heap[r]? = some (.cells #[.int .i64 a, .int .i64 b, .slice none 0 0, .slice none 0 0, .slice none 0 0] 41 (0, 0))) : Kd.C k41 W (some ⟨r, 0, none⟩) 1 [⟨a, b, [], [], []⟩] :=
  C41b (l := [⟨a, b, [], [], []⟩]) (fun _ => [.int .i64 a, .int .i64 b, .slice none 0 0, .slice none 0 0, .slice none 0 0]) hr rfl (fun _ => rfl) (fun x hx => by
    rw [List.mem_singleton.1 hx]
    exact k41_mk _ ⟨a, b, [], [], []⟩ (Nat.le_refl 0) (nil48 _) (Nat.le_refl 0) (nil46 _) (Nat.le_refl 0) (nil33 _)) (show 1 ≤ 1000000 by decide)
theorem nm37 : code_Name.f 37 = some ⟨#[]⟩ := by decide +kernel
theorem opNil : code_Op.f ⟨#[78, 105, 108]⟩ = some (-1) := by decide +kernel
theorem opE : code_Op.f ⟨#[]⟩ = some (-1) := by decide +kernel
def cA (bc bk : Nat) : List Value := [.int .i64 0, .int .i64 3, .slice none 0 0, .slice (some ⟨bc, 0, none⟩) 2 2, .slice (some ⟨bk, 0, none⟩) 2 2]
theorem cA_one (bc bk : Nat) : ∀ u ∈ cA bc bk, u.oneCell' = true := by
  intro u hu
  simp only [cA, List.mem_cons, List.not_mem_nil, or_false] at hu
  rcases hu with rfl | rfl | rfl | rfl | rfl <;> rfl
structure LpAt (w : World) (gb : Nat) (x : S33) (bx r bc bk : Nat) (W : World) : Prop where
  kb : KB w gb W
  kx : W.heap[bx]? = some (.cells #[.slice (some ⟨r, 0, none⟩) 1 1] 28 (0, 0))
  kr : W.heap[r]? = some (.cells (cA bc bk).toArray 41 (0, 0))
  kc : W.heap[bc]? = some (.cells #[.int .i64 3, .int .i64 5, .string ⟨#[]⟩, .int .i64 5, .int .i64 0, .string ⟨#[120]⟩] 46 (0, 0))
  kk : W.heap[bk]? = some (.cells #[.int .i64 x.f0, .int .i64 x.f1, .int .i64 x.f2, .int .i64 0, .int .i64 0, .int .i64 0] 33 (0, 0))
  hr : w.heap.size ≤ r
  hx : w.heap.size ≤ bx
theorem LpAt.below {w W W1 : World} {gb bx r bc bk : Nat} {x : S33} (h : LpAt w gb x bx r bc bk W) (hb : Below W.heap.size W W1) : LpAt w gb x bx r bc bk W1 :=
  ⟨h.kb.below hb, blk_below h.kx hb, blk_below h.kr hb, blk_below h.kc hb, blk_below h.kk hb, h.hr, h.hx⟩
theorem LpAt.cell {w W : World} {gb bx r bc bk : Nat} {x : S33} (h : LpAt w gb x bx r bc bk W) : W.cell? ⟨bx, 0, none⟩ = some (.slice (some ⟨r, 0, none⟩) 1 1) := (blk_cell h.kx 0).trans rfl
def LpEnd (w : World) (gb : Nat) (x : S33) (bx : Nat) (A : Option Addr) (cp : Nat) (W : World) : Prop :=
  KB w gb W ∧ W.heap[bx]? = some (.cells #[.slice A 2 cp] 28 (0, 0)) ∧ Kd.C k41 W A 2 (knL x) ∧ 2 ≤ cp
theorem LpAt.next {w W w1 : World} {gb bx r bc bk bz cp : Nat} {A : Option Addr} {x : S33} (h : LpAt w gb x bx r bc bk W) (kz : W.heap[bz]? = some (.cells #[.int .i64 0, .int .i64 0, .int .i64 0] 33 (0, 0)))
    (hg : W.grownBy w1 (some r)) (hb : Below w.heap.size W w1) (hN : Kd.N (Kd.raw 5) 41 w1 w.heap.size (fun _ => True) (.slice A ([cA bc bk] ++ [c0 (.slice none 0 0) bz]).length cp) ([cA bc bk] ++ [c0 (.slice none 0 0) bz])) :
    LpEnd w gb x bx A cp (w1.setCell ⟨bx, 0, none⟩ (.slice A 2 cp)) := by
  have ty : ∀ {k : Nat} {cs : Array Value} {t : TypeId}, W.heap[k]? = some (.cells cs t (0, 0)) → t ≠ 41 → k ≠ r := fun hk ht e => by
    rw [e, h.kr] at hk
    simp at hk
    exact ht hk.2.symm
  have tx : ∀ {k : Nat} {cs : Array Value} {t : TypeId}, W.heap[k]? = some (.cells cs t (0, 0)) → t ≠ 28 → k ≠ bx := fun hk ht e => by
    rw [e, h.kx] at hk
    simp at hk
    exact ht hk.2.symm
  have mv : ∀ {k : Nat} {cs : Array Value} {t : TypeId}, W.heap[k]? = some (.cells cs t (0, 0)) → t ≠ 41 → t ≠ 28 → (w1.setCell ⟨bx, 0, none⟩ (.slice A 2 cp)).heap[k]? = some (.cells cs t (0, 0)) := fun {k} {cs} {t} hk h1 h2 =>
    (Below.heap_setCell w1 ⟨bx, 0, none⟩ _ k (tx hk h2)).trans ((hg.block k (blk_lt hk) (fun e => ty hk h1 (by injection e))).trans hk)
  have kx1 := (hg.block bx (blk_lt h.kx) (fun e => ty h.kx (by decide) (by injection e))).trans h.kx
  obtain ⟨g, cap, he, _, _, hty⟩ := Kd.N_form hN (Nat.zero_lt_succ _)
  injection he with e1 e2 e3
  subst e1 e3
  have hgx : g ≠ bx := fun e => by
    obtain ⟨cells, ht⟩ := hty
    rw [e, kx1] at ht
    simp at ht
  have hr := Kd.N_reads' (N_raw_far hN (p := ⟨bx, 0, none⟩) hgx (.slice (some ⟨g, 0, none⟩) 2 cp))
  have hc := mv h.kc (by decide) (by decide)
  have hk := mv h.kk (by decide) (by decide)
  have hz := mv kz (by decide) (by decide)
  refine ⟨⟨(h.kb.1.trans hb).setCell h.hx _, mv h.kb.2.1 (by decide) (by decide), h.kb.2.2.1, mv h.kb.2.2.2 (by decide) (by decide)⟩, blk_put kx1 0 _ rfl, C_of_raw hr.2.2 rfl (fun j p c hp hcs => ?_), hr.2.1⟩
  rcases j with _ | _ | j
  · obtain rfl : ⟨0, 3, [], [⟨3, 5, ⟨#[]⟩⟩, ⟨5, 0, ⟨#[120]⟩⟩], [x, ⟨0, 0, 0⟩]⟩ = p := by simpa [knL] using hp
    obtain rfl : cA bc bk = c := by simpa using hcs
    exact k41_mk _ ⟨0, 3, [], [⟨3, 5, ⟨#[]⟩⟩, ⟨5, 0, ⟨#[120]⟩⟩], [x, ⟨0, 0, 0⟩]⟩ (Nat.le_refl 0) (nil48 _) (Nat.le_refl 2) (C46b (l := [⟨3, 5, ⟨#[]⟩⟩, ⟨5, 0, ⟨#[120]⟩⟩]) hc rfl (by decide)) (Nat.le_refl 2) (C33b (l := [x, ⟨0, 0, 0⟩]) hk rfl (show 2 ≤ 1000000 by decide))
  · obtain rfl : ⟨0, 1, [], [], [⟨0, 0, 0⟩]⟩ = p := by simpa [knL] using hp
    obtain rfl : c0 (.slice none 0 0) bz = c := by simpa using hcs
    exact k41_mk _ ⟨0, 1, [], [], [⟨0, 0, 0⟩]⟩ (Nat.le_refl 0) (nil48 _) (Nat.le_refl 0) (nil46 _) (Nat.le_refl 1) (C33b (l := [⟨0, 0, 0⟩]) hz rfl (by decide))
  · simp at hcs
theorem minfo5 : (Try.prog.info? 5).map (fun i => (i.zero, i.size, i.bytes)) = some (some (.int .u8 0), 1, 1) := by kernel_rfl
theorem conv_size : (strOfNums (List.replicate 4097 (0 : Int))).size = 4097 := by rw [strOfNums_size, List.length_replicate]
theorem mk_bytes : ∃ Z : Array Value, (∀ i, i < 4097 → Z[i]? = some (.int .u8 0)) ∧ ∀ W : World, (Instr.makeSlice 49 (.int .i64 4097) (.int .i64 4097)).run Try.prog W = .ok (.slice (some ⟨W.heap.size, 0, none⟩) 4097 4097) (W.alloc (.cells Z 5)) := by
  obtain ⟨i0, hi, hzz⟩ := Option.map_eq_some_iff.1 minfo5
  simp only [Prod.mk.injEq] at hzz
  obtain ⟨hz0, hz1, hz2⟩ := hzz
  refine ⟨madeCells (Value.int .u8 0).cells (4097 * 1), fun i hi2 => ?_, fun W => ?_⟩
  · simp [madeCells, Value.cells, hi2, Nat.mod_one]
  · have hr := run_make (P := Try.prog) W 49 5 i0 (.int .u8 0) Try.underlying49 hi hz0 .i64 .i64 4097 4097 (by decide) (by decide) (by rw [hz2]; decide) (by decide)
    rw [hz1] at hr
    exact hr
theorem cv_bytes {W : World} {Z : Array Value} {b : Nat} (hZ : ∀ i, i < 4097 → Z[i]? = some (.int .u8 0)) (h : W.heap[b]? = some (.cells Z 5 (0, 0))) :
    (convert 49 9 (.slice (some ⟨b, 0, none⟩) 4097 4097)).run Try.prog W = .ok (.string (strOfNums (List.replicate 4097 (0 : Int)))) W := by
  refine run_convert_bytes_arg W 49 5 Try.underlying49 Try.underlying5 b 0 4097 4097 (List.replicate 4097 (0 : Int)) (List.length_replicate ..) (fun i hi => ?_) 9 Try.underlying9
  rw [Nat.zero_add, blk_cell h, hZ i hi, List.getD_eq_getElem?_getD, List.getElem?_replicate, if_pos hi]
  rfl
end Go.Proofs.Ytpdcedmnkkiekaa.G
end
