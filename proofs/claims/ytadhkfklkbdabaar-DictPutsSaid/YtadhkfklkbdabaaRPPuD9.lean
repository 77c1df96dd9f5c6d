import Derived.Deep.RegionLaw
import Derived.Deep.Cut
import Derived.WalkSpells
import Derived.Maps.OwnOps
import Derived.Maps.OwnSet
import Derived.Maps.Views
import Derived.Maps.Own
import Derived.DeepKeys5
import Derived.Outline
import Derived.Deep.AppendLies
import Derived.Laws.CopyRow
import Derived.Laws.CopyOwn
import Derived.StillTailTactics
import Derived.Test.YtadhkfklkbdabaaRPPuD7
import Derived.Test.YtadhkfklkbdabaaRPPuGxF46
set_option linter.unusedVariables false
set_option linter.unusedSimpArgs false
section
namespace Go.Proofs.YtadhkfklkbdabaaR.G
open Go.RowKit Go.Proofs.YtadhkfklkbdabaaRW.PrintWords Go.Proofs.YtadhkfklkbdabaaRW.PrintLast Go.Proofs.YtadhkfklkbdabaaRW.PrintMore
set_option linter.unusedVariables false
set_option linter.unusedSimpArgs false
theorem ref_f (v : S24) : val_Ref.f v.f0 v.f1 = some (refB v) := by
 unfold val_Ref.f refB
 by_cases h : v.f0 ≥ 5
 ·rw [if_pos h, show decide (5 ≤ v.f0) = true from decide_eq_true h]; rfl
 ·rw [if_neg h, show decide (5 ≤ v.f0) = false from decide_eq_false h]; rfl
theorem ref_any (v : S24) (w : World) : Calls Try.prog 46 #[.agg #[.int .i64 v.f0, .int .i64 v.f1]] w fun e w' => e = .returned (.bool (refB v)) ∧ Below w.heap.size w w' := val_Ref.calls v.f0 v.f1 _ w (ref_f v)
structure Tab (base p : Nat) (ok : Nat → Prop) (W : World) (va vq vg : Value) (a q g : List S24) : Prop where
 cell : W.heap[p]? = some (.cells #[va, vq, vg] 60 (0, 0))
 pb : base ≤ p
 ra : Kd.R k24 24 W base (fun b => (ok b ∧ b ≠ p) ∧ some b ≠ vq.ownBlock ∧ some b ≠ vg.ownBlock) va a
 rq : Kd.R k24 24 W base (fun b => (ok b ∧ b ≠ p) ∧ some b ≠ va.ownBlock ∧ some b ≠ vg.ownBlock) vq q
 rg : Kd.R k24 24 W base (fun b => (ok b ∧ b ≠ p) ∧ some b ≠ va.ownBlock ∧ some b ≠ vq.ownBlock) vg g
theorem Tab.below {base p : Nat} {ok : Nat → Prop} {W W' : World} {va vq vg : Value} {a q g : List S24} (h : Tab base p ok W va vq vg a q g) (hb : Below W.heap.size W W') : Tab base p ok W' va vq vg a q g :=
 ⟨blk_below h.cell hb, h.pb, Kd.R_below h.ra hb, Kd.R_below h.rq hb, Kd.R_below h.rg hb⟩
theorem R_append_lies {α : Type} (d : Kd α) {ops : Array Oper} {o : Oper} {a : Act} {K : Act → World → Prop} {Q : Exit → Act → World → Prop} {E : Prop} {w : World} (hgd : o.guard = none) (s x : Operand) (t e : TypeId) (z : Value) (bytes : Nat)
  (ho : o.op = .call { callee := .builtin .append, args := #[s, x], argTypes := #[t, t] }) (ht : Try.prog.underlying t = some (.slice e)) (hinfo : (Try.prog.info? e).map (fun i => (i.zero, i.size, i.bytes)) = some (some z, d.sz, bytes)) (hz : z.cells.size = d.sz) (hs0 : 0 < d.sz)
  (base : Nat) (v : Value) (xs : List α) (p : α) (cs : List Value) (ok okp : Nat → Prop) (b : Nat) (hs : a.eval s = v) (hx : a.eval x = .slice (some ⟨b, 0, none⟩) 1 1) (hb : w.heap[b]? = some (.cells cs.toArray e (0, 0)))
  (hp : d.M w base okp p cs) (hokp : ∀ k, okp k → ok k ∧ some k ≠ v.ownBlock) (hfresh : ∀ k, w.heap.size ≤ k → ok k) (HO : Kd.R d e w base ok v xs) (hbase : base ≤ w.heap.size) (hlen : xs.length + 1 ≤ maxLen) (hl : (xs.length + 1) * bytes ≤ 140737488355328)
  (h : ∀ v1 w1, Kd.R d e w1 base ok v1 (xs ++ [p]) → w.grownBy w1 v.ownBlock → (v1.ownBlock = v.ownBlock ∨ ∃ b, v1.ownBlock = some b ∧ w.heap.size ≤ b) → K (a.put o.dst v1) w1) :
  if Region.wanted o (yielded ops a.tmps) = true then Oper.wp Try.prog o a w K Q else E := by
 obtain ⟨h0, inner, hown, hreps⟩ := HO
 obtain ⟨i, hi, hzi⟩ := Option.map_eq_some_iff.1 hinfo
 simp only [Prod.mk.injEq] at hzi
 obtain ⟨z1, z2, z3⟩ := hzi
 have hcl := d.K_len (d.K_of_M hp)
 refine step_append_lies w hgd s x t ho base e i z d.sz bytes ht hi z1 z2 z3 hz hs0 v xs.length inner hs hown ⟨b, 0, none⟩ 1 1 cs hx (by rw [hcl, Nat.one_mul]) (fun j u hj => ?_) (d.K_one (d.K_of_M hp)) (by decide) hlen hl hbase w.heap.size rfl ?_
 ·rw [show (⟨b, 0, none⟩ : Addr).add j = ⟨b, j, none⟩ from by rw [Addr.add_lit, Nat.zero_add]]
  rw [blk_cell hb j]; simpa using hj
 ·intro g cap w1 hown1 hg hat hlt
  have hat' : (Value.slice (some ⟨g, 0, none⟩) (xs.length + 1) cap).ownBlock = v.ownBlock ∨ ∃ c, (Value.slice (some ⟨g, 0, none⟩) (xs.length + 1) cap).ownBlock = some c ∧ w.heap.size ≤ c := by
   rcases hat with e1 | e1
   ·left; rw [e1]; simp [Value.ownBlock]
   ·right; exact ⟨g, by simp [Value.ownBlock], by omega⟩
  exact h _ w1 (Kd.R_appended h0 hreps hp hokp hfresh hown1 hg hat') hg hat'
theorem Tab.lt {base p : Nat} {ok : Nat → Prop} {W : World} {va vq vg : Value} {a q g : List S24} (h : Tab base p ok W va vq vg a q g) : p < W.heap.size := blk_lt h.cell
theorem Tab.base_le {base p : Nat} {ok : Nat → Prop} {W : World} {va vq vg : Value} {a q g : List S24} (h : Tab base p ok W va vq vg a q g) : base ≤ W.heap.size := Nat.le_trans h.pb (Nat.le_of_lt h.lt)
theorem Tab.push {base p : Nat} {ok : Nat → Prop} {W w1 : World} {va vq vg v1 : Value} {a q g g1 : List S24} (h : Tab base p ok W va vq vg a q g) (hr : Kd.R k24 24 w1 base (fun b => (ok b ∧ b ≠ p) ∧ some b ≠ va.ownBlock ∧ some b ≠ vq.ownBlock) v1 g1)
  (hg : W.grownBy w1 vg.ownBlock) (hat : v1.ownBlock = vg.ownBlock ∨ ∃ b, v1.ownBlock = some b ∧ W.heap.size ≤ b) : Tab base p ok (w1.setCell ⟨p, 2, none⟩ v1) va vq v1 a q g1 := by
 have hp : some p ≠ vg.ownBlock := fun he => (h.rg.1 p he.symm).1.2 rfl
 refine ⟨blk_put ((hg.block p h.lt hp).trans h.cell) 2 _ rfl, h.pb, ?_, ?_, ?_⟩
 ·refine Kd.R_far (p := ⟨p, 2, none⟩) (Kd.R_mono (Kd.R_after (ok := fun b => (ok b ∧ b ≠ p) ∧ some b ≠ vq.ownBlock) (v1 := v1) (Kd.R_mono h.ra fun _ hk => ⟨⟨hk.1, hk.2.1⟩, hk.2.2⟩) hg hat) fun _ hk => ⟨hk.1.1, hk.1.2, hk.2⟩) (fun _ hk => hk.1.2) _
 ·refine Kd.R_far (p := ⟨p, 2, none⟩) (Kd.R_mono (Kd.R_after (ok := fun b => (ok b ∧ b ≠ p) ∧ some b ≠ va.ownBlock) (v1 := v1) (Kd.R_mono h.rq fun _ hk => ⟨⟨hk.1, hk.2.1⟩, hk.2.2⟩) hg hat) fun _ hk => ⟨hk.1.1, hk.1.2, hk.2⟩) (fun _ hk => hk.1.2) _
 ·exact Kd.R_far (p := ⟨p, 2, none⟩) hr (fun _ hk => hk.1.2) _
theorem Tab.fresh {base p : Nat} {ok : Nat → Prop} {W : World} {va vq vg : Value} {a q g : List S24} (h : Tab base p ok W va vq vg a q g) (hok : ∀ k, W.heap.size ≤ k → ok k) : ∀ k, W.heap.size ≤ k → (ok k ∧ k ≠ p) ∧ some k ≠ va.ownBlock ∧ some k ≠ vq.ownBlock ∧ some k ≠ vg.ownBlock :=
 fun k hk => ⟨⟨hok k hk, by have := h.lt; omega⟩, Kd.fresh' (Kd.R_lt h.ra) k hk, Kd.fresh' (Kd.R_lt h.rq) k hk, Kd.fresh' (Kd.R_lt h.rg) k hk⟩
theorem refsL_snoc (v : S24) (l : List S24) : refsL (v :: l) = if refB v = true then v :: refsL l else refsL l := by unfold refsL; rw [List.filter_cons]
structure LvI (vg0 : Value) (base p : Nat) (ok : Nat → Prop) (w : World) (va vq vg : Value) (a q g : List S24) (A : Option Addr) (c : Nat) (l : List S24) (j : Nat) (wr : World) : Prop where
 tab : Tab base p (fun b => ok b ∧ some b ≠ (Value.slice A l.length c).ownBlock) wr va vq vg a q (g ++ refsL (l.take j))
 row : Kd.R k24 24 wr base (fun b => (ok b ∧ b ≠ p) ∧ some b ≠ va.ownBlock ∧ some b ≠ vq.ownBlock ∧ some b ≠ vg.ownBlock) (.slice A l.length c) l
 bel : Below base w wr
 far : ∀ b, b < w.heap.size → b ≠ p → some b ≠ vg0.ownBlock → wr.heap[b]? = w.heap[b]?
 atg : vg.ownBlock = vg0.ownBlock ∨ ∃ b, vg.ownBlock = some b ∧ w.heap.size ≤ b
theorem LvI.below {vg0 : Value} {base p : Nat} {ok : Nat → Prop} {w : World} {va vq vg : Value} {a q g : List S24} {A : Option Addr} {c : Nat} {l : List S24} {j : Nat} {wr w' : World} (h : LvI vg0 base p ok w va vq vg a q g A c l j wr) (hb : Below wr.heap.size wr w') : LvI vg0 base p ok w va vq vg a q g A c l j w' :=
 ⟨h.tab.below hb, Kd.R_below h.row hb, h.bel.trans (hb.mono h.tab.base_le), fun b h1 h2 h3 => (hb.block b (Nat.lt_of_lt_of_le h1 h.bel.size)).trans (h.far b h1 h2 h3), h.atg⟩
theorem refsL_take {l : List S24} {j : Nat} (h : j < l.length) : refsL (l.take (j + 1)) = refsL (l.take j) ++ refsL [rd_T24 l (j : Int)] := by
 unfold refsL
 rw [← List.filter_append]
 congr 1
 rw [List.take_add_one]
 unfold rd_T24
 rw [Int.toNat_natCast, List.getD_eq_getElem?_getD, List.getElem?_eq_getElem h]
 rfl
theorem LvI.next {vg0 : Value} {base p : Nat} {ok : Nat → Prop} {w : World} {va vq vg v1 : Value} {a q g : List S24} {A : Option Addr} {c : Nat} {l : List S24} {j : Nat} {W w1 : World} {x : S24} (h : LvI vg0 base p ok w va vq vg a q g A c l j W) (hx : refsL (l.take (j + 1)) = refsL (l.take j) ++ [x])
  (hr : Kd.R k24 24 w1 base (fun b => ((ok b ∧ some b ≠ (Value.slice A l.length c).ownBlock) ∧ b ≠ p) ∧ some b ≠ va.ownBlock ∧ some b ≠ vq.ownBlock) v1 ((g ++ refsL (l.take j)) ++ [x])) (hg : W.grownBy w1 vg.ownBlock) (hat : v1.ownBlock = vg.ownBlock ∨ ∃ b, v1.ownBlock = some b ∧ W.heap.size ≤ b) :
  LvI vg0 base p ok w va vq v1 a q g A c l (j + 1) (w1.setCell ⟨p, 2, none⟩ v1) := by
 have e : g ++ refsL (l.take (j + 1)) = (g ++ refsL (l.take j)) ++ [x] := by rw [hx, List.append_assoc]
 refine ⟨by rw [e]; exact Tab.push h.tab hr hg hat, ?_, (h.bel.trans (Below.grown (Below.refl _ _) hg h.tab.base_le (Kd.R_base h.tab.rg))).setCell h.tab.pb _, ?_, ?_⟩
 rotate_left
 ·intro b h1 h2 h3
  have hbW := Nat.lt_of_lt_of_le h1 h.bel.size
  rw [RowKit.Below.heap_setCell _ _ _ _ (by simpa using h2), hg.block b hbW ?_]
  ·exact h.far b h1 h2 h3
  ·rcases h.atg with e1 | ⟨c1, e1, e2⟩
   ·rw [e1]; exact h3
   ·rw [e1]; intro e3; injection e3 with e3; omega
 ·rcases hat with e1 | ⟨c1, e1, e2⟩
  ·rw [e1]; exact h.atg
  ·exact .inr ⟨c1, e1, Nat.le_trans h.bel.size e2⟩
 exact Kd.R_far (p := ⟨p, 2, none⟩) (Kd.R_mono (Kd.R_after (ok := fun b => (ok b ∧ b ≠ p) ∧ some b ≠ va.ownBlock ∧ some b ≠ vq.ownBlock) (v1 := v1) (Kd.R_mono h.row fun _ hk => ⟨⟨hk.1, hk.2.1, hk.2.2.1⟩, hk.2.2.2⟩) hg hat) fun _ hk => ⟨hk.1.1, hk.1.2.1, hk.1.2.2, hk.2⟩) (fun _ hk => hk.1.2) _
theorem LvI.cell {vg0 : Value} {base p : Nat} {ok : Nat → Prop} {w : World} {va vq vg : Value} {a q g : List S24} {A : Option Addr} {c : Nat} {l : List S24} {j : Nat} {W w1 : World} (h : LvI vg0 base p ok w va vq vg a q g A c l j W) (hg : W.grownBy w1 vg.ownBlock) : w1.heap[p]? = some (.cells #[va, vq, vg] 60 (0, 0)) :=
 (hg.block p h.tab.lt (fun he => (h.tab.rg.1 p he.symm).1.2 rfl)).trans h.tab.cell
theorem LvI.fresh {vg0 : Value} {base p : Nat} {ok : Nat → Prop} {w : World} {va vq vg : Value} {a q g : List S24} {A : Option Addr} {c : Nat} {l : List S24} {j : Nat} {W : World} (h : LvI vg0 base p ok w va vq vg a q g A c l j W) (hok : ∀ k, W.heap.size ≤ k → ok k) : ∀ k, W.heap.size ≤ k → ((ok k ∧ some k ≠ (Value.slice A l.length c).ownBlock) ∧ k ≠ p) ∧ some k ≠ va.ownBlock ∧ some k ≠ vq.ownBlock :=
 fun k hk => ⟨⟨⟨hok k hk, Kd.fresh' (Kd.R_lt h.row) k hk⟩, by have := h.tab.lt; omega⟩, Kd.fresh' (Kd.R_lt h.tab.ra) k hk, Kd.fresh' (Kd.R_lt h.tab.rq) k hk⟩
theorem refsL_len (l : List S24) : (refsL l).length ≤ l.length := List.length_filter_le _ _
set_option maxHeartbeats 2000000 in
theorem leave_any (base p : Nat) (ok : Nat → Prop) (va vq vg : Value) (a q g : List S24) (A : Option Addr) (c : Nat) (l : List S24) (w : World) (ht : Tab base p (fun b => ok b ∧ some b ≠ (Value.slice A l.length c).ownBlock) w va vq vg a q g)
  (hr : Kd.R k24 24 w base (fun b => (ok b ∧ b ≠ p) ∧ some b ≠ va.ownBlock ∧ some b ≠ vq.ownBlock ∧ some b ≠ vg.ownBlock) (.slice A l.length c) l) (hfresh : ∀ k, w.heap.size ≤ k → ok k) (hl : l.length ≤ 10) (hg : g.length ≤ 100) :
  Calls Try.prog 53 #[.pointer (some ⟨p, 0, none⟩), .slice A l.length c] w fun e w' => ∃ vg', e = .returned (.tuple #[]) ∧ Tab base p ok w' va vq vg' a q (g ++ refsL l) ∧ Below base w w' ∧ (∀ b, b < w.heap.size → b ≠ p → some b ≠ vg.ownBlock → w'.heap[b]? = w.heap[b]?) := by
 have HL : Aside0 (LvI vg base p ok w va vq vg a q g A c l 0 w) := Aside0.mk ⟨by simpa [refsL] using ht, hr, Below.refl _ _, fun _ _ _ _ => rfl, .inl rfl⟩
 have HFR := Aside0.mk hfresh
 clear ht hr hfresh
 go_enter Try.func53, Try.ntmps53
 go_wp2_with fail
 go_loopw [8] (fun v wr => ∃ j : Nat, ∃ vg', v = .int .i64 j ∧ j ≤ l.length ∧ w.heap.size ≤ wr.heap.size ∧ Aside0 (LvI vg base p ok w va vq vg' a q g A c l j wr)) (fun v _ => l.length - (intOf v).toNat)
 case atStart => exact ⟨0, vg, rfl, Nat.zero_le _, Nat.le_refl _, HL⟩
 case round =>
  clear HL
  obtain ⟨j, vg', rfl, hj, hsz, HI⟩ := hrel
  by_cases hlt : j < l.length
  ·have HC := Aside0.mk (Kd.R_reads' HI.out.row).2.2
   obtain ⟨ad, hA, q0, q1⟩ := at_T24 HC.out (j : Int) (by omega) (by omega)
   subst hA
   simp only [Int.toNat_natCast] at q0 q1
   have HX := Aside0.mk (refsL_take hlt)
   obtain ⟨x, hxx⟩ : ∃ x, rd_T24 l (j : Int) = x := ⟨_, rfl⟩
   rw [hxx] at HX q0 q1
   clear hxx
   have hltc : (j : Int) < (l.length : Int) := by omega
   go_wp2_with fail
   refine (ref_any x _).mono ?_
   rintro e w8 ⟨rfl, hb8⟩
   have H8 := Aside0.mk (LvI.below (LvI.below HI.out (below_alloc (Below.refl _ _) (.cells #[.int .i64 x.f0, .int .i64 x.f1] 24))) hb8)
   have hs8 : w.heap.size ≤ w8.heap.size := Nat.le_trans hsz (Nat.le_trans (by simp) hb8.size)
   have x8 := blk_below (blk_new wr (.cells #[.int .i64 x.f0, .int .i64 x.f1] 24)) hb8
   have x0 : w8.cell? ⟨wr.heap.size, 0, none⟩ = some (.int .i64 x.f0) := (blk_cell x8 0).trans rfl
   have x1 : w8.cell? ⟨wr.heap.size, 1, none⟩ = some (.int .i64 x.f1) := (blk_cell x8 1).trans rfl
   have t2 : w8.cell? ⟨p, 2, none⟩ = some vg' := (blk_cell H8.out.tab.cell 2).trans rfl
   have t2a : ∀ o, (w8.alloc o).cell? ⟨p, 2, none⟩ = some vg' := fun o => (blk_cell (blk_alloc H8.out.tab.cell o) 2).trans rfl
   have t2b : ∀ o, (w8.drew.alloc o).cell? ⟨p, 2, none⟩ = some vg' := fun o => (blk_cell (blk_alloc (blk_drew H8.out.tab.cell) o) 2).trans rfl
   have f2 : w8.frozen? ⟨p, 2, none⟩ = false := blk_frozen H8.out.tab.cell 2
   clear x8 hb8 HI HC q0 q1
   cases hrf : refB x with
   | false =>
    have hz : refsL (l.take (j + 1)) = refsL (l.take j) := by rw [HX.out]; unfold refsL; simp [hrf]
    have H9 : Aside0 (LvI vg base p ok w va vq vg' a q g (some ad) c l (j + 1) w8) := Aside0.mk ⟨by rw [hz]; exact H8.out.tab, H8.out.row, H8.out.bel, H8.out.far, H8.out.atg⟩
    clear hz H8 x0 x1 t2 t2a t2b f2
    go_wp2_with fail
    go_roundw
    case rel => exact ⟨j + 1, vg', by simp, by omega, hs8, H9⟩
    case measure => simp [intOf]; omega
   | true =>
    have HZ := Aside0.mk (show refsL (l.take (j + 1)) = refsL (l.take j) ++ [x] by rw [HX.out]; unfold refsL; simp [hrf])
    have hlen := refsL_len (l.take j)
    rw [List.length_take] at hlen
    obtain ⟨Ag, cg, hvg⟩ := Kd.R_slice H8.out.tab.rg
    subst hvg
    have HLN := Aside0.mk hlen
    clear hlen
    go_wp2_with fail
    go_region_law
     (refine R_append_lies k24 rfl (.tmp 18) (.tmp 20) 22 24 (.agg #[(.int .i64 0), (.int .i64 0)]) 16 rfl Try.underlying22 info24 rfl (by decide) base _ (g ++ refsL (l.take j)) x [.int .i64 x.f0, .int .i64 x.f1] (fun b => ((ok b ∧ some b ≠ (Value.slice (some ad) l.length c).ownBlock) ∧ b ≠ p) ∧ some b ≠ va.ownBlock ∧ some b ≠ vq.ownBlock) (fun _ => False) _ (by simp [Act.eval]) (by simp [Act.eval]; rfl) (by first | exact blk_new _ _ | (apply blk_drew; exact blk_new _ _)) (k24_mkM _ _ _ x) (fun _ h => h.elim) ((LvI.below H8.out (by (repeat (first | exact Below.refl _ _ | apply below_drew | apply below_alloc)); done)).fresh (fun k hk => HFR.out k (Nat.le_trans hs8 (Nat.le_trans (by simp) hk)))) (LvI.below H8.out (by (repeat (first | exact Below.refl _ _ | apply below_drew | apply below_alloc)); done)).tab.rg (LvI.below H8.out (by (repeat (first | exact Below.refl _ _ | apply below_drew | apply below_alloc)); done)).tab.base_le (by have := HLN.out; simp [maxLen]; omega) (by have := HLN.out; simp; omega) ?_; intro v10 w10 hr10 hg10 hat10; obtain ⟨A10, cp10, rfl⟩ := Kd.R_slice hr10; have hc10 := LvI.cell (LvI.below H8.out (by (repeat (first | exact Below.refl _ _ | apply below_drew | apply below_alloc)); done)) hg10; have t10 : w10.cell? ⟨p, 2, none⟩ = some (.slice Ag (g ++ refsL (l.take j)).length cg) := (blk_cell hc10 2).trans rfl; have f10 : w10.frozen? ⟨p, 2, none⟩ = false := blk_frozen hc10 2; have HE := Aside0.mk (LvI.next (LvI.below H8.out (by (repeat (first | exact Below.refl _ _ | apply below_drew | apply below_alloc)); done)) HZ.out hr10 hg10 hat10); have hs10 : w.heap.size ≤ w10.heap.size := Nat.le_trans (Nat.le_trans hs8 (by simp)) hg10.size; clear hr10 hg10 hat10 hc10; rw [show (g ++ refsL (List.take j l) ++ [x]).length = g.length + ((refsL (List.take j l)).length + 1) by simp [Nat.add_assoc]] at HE)
    all_goals
     go_wp2_with fail
     go_roundw
     case rel => exact ⟨j + 1, _, by simp, by omega, by simpa using hs10, HE⟩
     case measure => simp [intOf]; omega
  ·have hjl : j = l.length := by omega
   subst hjl
   have HT := Aside0.mk HI.out.tab
   rw [List.take_length] at HT
   go_wp2_with fail
   exact bodyPost_end (results_none rfl _ _ _) rfl ⟨vg', rfl, ⟨HT.out.cell, HT.out.pb, Kd.R_mono HT.out.ra (fun _ hk => ⟨⟨hk.1.1.1, hk.1.2⟩, hk.2⟩), Kd.R_mono HT.out.rq (fun _ hk => ⟨⟨hk.1.1.1, hk.1.2⟩, hk.2⟩), Kd.R_mono HT.out.rg (fun _ hk => ⟨⟨hk.1.1.1, hk.1.2⟩, hk.2⟩)⟩, HI.out.bel, HI.out.far⟩
open Go.RowKit in
theorem run_copy_rows {P : Program} (w : World) (dT sT ty elem : TypeId) (g o dLen dCap : Nat) (a : Addr) (sLen sCap : Nat) (cur : Array Value) (t : TypeId) (cs : List Value) (sz : Nat)
  (hu : P.underlying dT = some (.slice elem)) (hs : (P.info? elem).map (·.size) = some sz)
  (hg : w.heap[g]? = some (.cells cur t (0, 0))) (hn : cs.length = Nat.min sLen dLen * sz)
  (hsrc : ∀ j v, cs[j]? = some v → w.cell? (a.add j) = some v) (hfit : o + cs.length ≤ cur.size) (h1 : ∀ v ∈ cs, v.oneCell' = true) :
  (Builtin.copy_ #[dT, sT] ty #[.slice (some ⟨g, o, none⟩) dLen dCap, .slice (some a) sLen sCap]).run P w =
   .ok (goInt (Nat.min sLen dLen)) (w.setRow g (cur.toList.take o ++ cs ++ cur.toList.drop (o + cs.length)).toArray) := by
 have hl := run_loadCells_list (P := P) w a cs hsrc
 have hst := run_storeCells_at P g o t cs 0 cur w hg (by simpa using hfit) h1
 cases hq : P.info? elem with
 | none => simp [hq] at hs
 | some i =>
  have hi : i.size = sz := by simpa [hq] using hs
  simp [Builtin.copy_, run_underlying hu, Builtin.lenOf, Builtin.firstCells, sizeOf, typeInfo, hq, hi, ← hn, hl, hst]
def flat24 : List S24 → List Value
 | [] => []
 | x :: q => .int .i64 x.f0 :: .int .i64 x.f1 :: flat24 q
theorem flat24_append : ∀ (a b : List S24), flat24 (a ++ b) = flat24 a ++ flat24 b
 | [], b => rfl
 | x :: a, b => by show _ :: _ :: flat24 (a ++ b) = _; rw [flat24_append a b]; rfl
theorem flat24_len : ∀ (a : List S24), (flat24 a).length = a.length * 2
 | [] => rfl
 | x :: a => by show (flat24 a).length + 1 + 1 = (a.length + 1) * 2; rw [flat24_len a]; omega
theorem flat24_one : ∀ (a : List S24), ∀ v ∈ flat24 a, v.oneCell' = true
 | [], v, h => by cases h
 | x :: a, v, h => by
  rcases List.mem_cons.1 h with rfl | h
  ·rfl
  ·rcases List.mem_cons.1 h with rfl | h
   ·rfl
   ·exact flat24_one a v h
theorem reps_flat {W : World} {base : Nat} {ok : Nat → Prop} : ∀ (q : List S24) (inner : List Value), Reps (k24.M W base ok) 2 q inner → inner = flat24 q
 | [], inner, h => List.eq_nil_of_length_eq_zero (by simpa using h.1)
 | x :: q, inner, h => by
  have h0 := k24_openM (h.2 0 x rfl)
  have h1 := reps_flat q (inner.drop 2) (by simpa using Kd.reps_drop (m := 1) h)
  rw [Nat.zero_mul, List.drop_zero] at h0
  rw [← List.take_append_drop 2 inner, h0, h1]
  rfl
theorem flat_reps {W : World} {base : Nat} {ok : Nat → Prop} : ∀ (q : List S24), Reps (k24.M W base ok) 2 q (flat24 q)
 | [] => Reps.none _ _
 | x :: q => by
  have h1 : Reps (k24.M W base ok) 2 ([] ++ [x]) ([] ++ [.int .i64 x.f0, .int .i64 x.f1]) := (Reps.none _ _).snoc (k24_mkM _ _ _ x) rfl
  exact Kd.reps_append h1 (flat_reps q)
theorem R24_own {W : World} {base : Nat} {ok : Nat → Prop} {v : Value} {q : List S24} (h : Kd.R k24 24 W base ok v q) : W.ownsRow base 24 2 v q.length (flat24 q) := by
 obtain ⟨_, inner, ho, hr⟩ := h
 have e := reps_flat q inner hr
 subst e
 exact ho
theorem R24_mk {W : World} {base : Nat} {ok : Nat → Prop} {v : Value} {q : List S24} (h0 : ∀ k, v.ownBlock = some k → ok k) (h : W.ownsRow base 24 2 v q.length (flat24 q)) : Kd.R k24 24 W base ok v q := ⟨h0, flat24 q, h, flat_reps q⟩
theorem flat24_take : ∀ (q : List S24) (i : Nat), (flat24 q).take (i * 2) = flat24 (q.take i)
 | q, 0 => by simp [flat24]
 | [], i + 1 => by simp [flat24]
 | x :: q, i + 1 => by
  rw [List.take_succ_cons, show (i + 1) * 2 = (i * 2 + 1) + 1 by omega]
  show List.take _ (_ :: _ :: flat24 q) = _ :: _ :: flat24 (q.take i)
  rw [List.take_succ_cons, List.take_succ_cons, flat24_take q i]
theorem flat24_drop : ∀ (q : List S24) (i : Nat), (flat24 q).drop (i * 2) = flat24 (q.drop i)
 | q, 0 => by simp
 | [], i + 1 => by simp [flat24]
 | x :: q, i + 1 => by
  rw [List.drop_succ_cons, show (i + 1) * 2 = (i * 2 + 1) + 1 by omega]
  show List.drop _ (_ :: _ :: flat24 q) = _
  rw [List.drop_succ_cons, List.drop_succ_cons, flat24_drop q i]
theorem take_splice {α : Type} (cur cs : List α) (o n : Nat) (h : o + cs.length ≤ n) (hn : n ≤ cur.length) : (cur.take o ++ cs ++ cur.drop (o + cs.length)).take n = (cur.take n).take o ++ cs ++ (cur.take n).drop (o + cs.length) := by
 have e1 : (cur.take o ++ cs).length = o + cs.length := by rw [List.length_append, List.length_take]; omega
 rw [List.take_append, e1, List.take_of_length_le (by omega), List.take_take, Nat.min_eq_left (by omega), List.drop_take]
theorem last_two {q : List S24} (h : 2 ≤ q.length) : q.drop (q.length - 2) = [rd_T24 q ((q.length : Int) - 2), rd_T24 q ((q.length : Int) - 1)] := by
 unfold rd_T24
 rw [show ((q.length : Int) - 2).toNat = q.length - 2 by omega, show ((q.length : Int) - 1).toNat = q.length - 2 + 1 by omega, List.drop_eq_getElem_cons (by omega), List.drop_eq_getElem_cons (by omega), List.drop_eq_nil_of_le (by omega),
  List.getD_eq_getElem?_getD, List.getD_eq_getElem?_getD, List.getElem?_eq_getElem (by omega), List.getElem?_eq_getElem (by omega)]
 rfl
theorem set_two {α : Type} : ∀ (q : List α) (i : Nat) (a b : α), i + 2 ≤ q.length → (q.set i a).set (i + 1) b = q.take i ++ [a, b] ++ q.drop (i + 2)
 | [], i, a, b, h => by simp at h
 | [x], i, a, b, h => by simp at h
 | x :: y :: q, 0, a, b, h => by simp
 | x :: y :: q, i + 1, a, b, h => by
  have := set_two (y :: q) i a b (by simpa using h)
  simp only [List.set_cons_succ, List.take_succ_cons, List.cons_append, List.drop_succ_cons]
  rw [this]
  simp
theorem takeP_eq {q : List S24} {i : Nat} (h : i + 2 ≤ q.length) : takeP q i = (q.take i ++ q.drop (q.length - 2) ++ q.drop (i + 2)).take (q.length - 2) := by
 unfold takeP
 rw [set_two _ _ _ _ h, last_two (by omega)]
theorem Tab.splice {base p : Nat} {ok : Nat → Prop} {W : World} {va vg : Value} {Aq : Option Addr} {cq : Nat} {a q g : List S24} {i : Nat} (h : Tab base p ok W va (.slice Aq q.length cq) vg a q g) (hi : i + 2 ≤ q.length) :
  ∃ gq cur, Aq = some ⟨gq, 0, none⟩ ∧ W.heap[gq]? = some (.cells cur 24 (0, 0)) ∧ i * 2 + (flat24 (q.drop (q.length - 2))).length ≤ cur.size ∧
   (∀ j v, (flat24 (q.drop (q.length - 2)))[j]? = some v → W.cell? ⟨gq, (q.length - 2) * 2 + j, none⟩ = some v) ∧
   Tab base p ok (W.setRow gq (cur.toList.take (i * 2) ++ flat24 (q.drop (q.length - 2)) ++ cur.toList.drop (i * 2 + (flat24 (q.drop (q.length - 2))).length)).toArray) va (.slice Aq q.length cq) vg a (q.take i ++ q.drop (q.length - 2) ++ q.drop (i + 2)) g ∧ base ≤ gq := by
 obtain ⟨hl, hx⟩ := R24_own h.rq
 rcases hx with ⟨hx, hn⟩ | ⟨gq, cap, cur, hv, hb, hg, hc, hm, hs, ht⟩
 ·omega
 ·injection hv with hA _ hcc
  subst hA
  subst hcc
  have hl2 : (flat24 (q.drop (q.length - 2))).length = 4 := by rw [flat24_len, List.length_drop]; omega
  have hown : ∀ n, (Value.slice (some ⟨gq, 0, none⟩) n cq).ownBlock = some gq := fun n => by simp [Value.ownBlock]
  refine ⟨gq, cur, rfl, hg, by rw [hl2]; omega, ?_, ?_, hb⟩
  ·intro j v hj
   rw [blk_cell hg]
   have hjl : j < 4 := by rw [← hl2]; exact (List.getElem?_eq_some_iff.1 hj).1
   rw [← flat24_drop, List.getElem?_drop, ← ht, List.getElem?_take_of_lt (by omega)] at hj
   simpa using hj
  ·have hoth : ∀ k, k ≠ gq → (W.setRow gq (cur.toList.take (i * 2) ++ flat24 (q.drop (q.length - 2)) ++ cur.toList.drop (i * 2 + (flat24 (q.drop (q.length - 2))).length)).toArray).heap[k]? = W.heap[k]? := fun k hk => setRow_other _ _ _ _ hk
   have hp : p ≠ gq := fun he => (h.rq.1 p (by rw [hown, he])).1.2 rfl
   refine ⟨(hoth p hp).trans h.cell, h.pb, Kd.R_step h.ra (fun k hk _ => hoth k (fun he => hk.2.1 (by rw [hown, he]))), R24_mk h.rq.1 ?_, Kd.R_step h.rg (fun k hk _ => hoth k (fun he => hk.2.2 (by rw [hown, he])))⟩
   have hlen : (q.take i ++ q.drop (q.length - 2) ++ q.drop (i + 2)).length = q.length := by simp only [List.length_append, List.length_take, List.length_drop]; omega
   refine ⟨by rw [flat24_len], .inr ⟨gq, cq, _, by rw [hlen], hb, setRow_heap _ _ _ _ _ _ hg, by rw [hlen]; exact hc, hm, ?_, ?_⟩⟩
   ·simp only [List.size_toArray, List.length_append, List.length_take, List.length_drop, hl2, Array.length_toList]; omega
   ·have hcs : cur.toList.length = cur.size := rfl
    rw [hlen, take_splice _ _ _ _ (by rw [hl2]; omega) (by omega), ht, hl2, flat24_append, flat24_append, flat24_take, show i * 2 + 4 = (i + 2) * 2 by omega, flat24_drop]
theorem Tab.setq {base p : Nat} {ok : Nat → Prop} {W : World} {va vq vq' vg : Value} {a q q' g : List S24} (h : Tab base p ok W va vq vg a q g) (hown : vq'.ownBlock = vq.ownBlock) (hr : Kd.R k24 24 W base (fun b => (ok b ∧ b ≠ p) ∧ some b ≠ va.ownBlock ∧ some b ≠ vg.ownBlock) vq' q') : Tab base p ok (W.setCell ⟨p, 1, none⟩ vq') va vq' vg a q' g := by
 refine ⟨blk_put h.cell 1 _ rfl, h.pb, ?_, ?_, ?_⟩
 ·rw [hown]; exact Kd.R_far (p := ⟨p, 1, none⟩) h.ra (fun _ hk => hk.1.2) _
 ·exact Kd.R_far (p := ⟨p, 1, none⟩) hr (fun _ hk => hk.1.2) _
 ·rw [hown]; exact Kd.R_far (p := ⟨p, 1, none⟩) h.rg (fun _ hk => hk.1.2) _
theorem size_le {base p : Nat} {ok : Nat → Prop} {W : World} {va vg : Value} {Aq : Option Addr} {cq : Nat} {a q g : List S24} (h : Tab base p ok W va (.slice Aq q.length cq) vg a q g) : q.length ≤ cq := (Kd.R_reads' h.rq).2.1
theorem take_any (base p : Nat) (ok : Nat → Prop) (va vg : Value) (Aq : Option Addr) (cq : Nat) (a q g : List S24) (i : Nat) (w : World) (ht : Tab base p ok w va (.slice Aq q.length cq) vg a q g) (hi : i + 2 ≤ q.length) (hl : q.length ≤ 2000000) :
  Calls Try.prog 54 #[.pointer (some ⟨p, 0, none⟩), .int .i64 i] w fun e w' => ∃ vq', e = .returned (.tuple #[]) ∧ Tab base p ok w' va vq' vg a (takeP q i) g ∧ Below base w w' := by
 have HT := Aside0.mk ht
 have HTD := Aside0.mk (Tab.below ht (below_drew (Below.refl w.heap.size w)))
 have hcap := size_le ht
 obtain ⟨gq, cur, rfl, hg, hfit, hsrc, htab, hbg⟩ := Tab.splice HTD.out hi
 have HS := Aside0.mk htab
 have HG := Aside0.mk hg
 have HF := Aside0.mk hfit
 have HSR := Aside0.mk hsrc
 have t1 : w.cell? ⟨p, 1, none⟩ = some (.slice (some ⟨gq, 0, none⟩) q.length cq) := (blk_cell HT.out.cell 1).trans rfl
 have f1 : w.frozen? ⟨p, 1, none⟩ = false := blk_frozen HT.out.cell 1
 have hl2 : (flat24 (q.drop (q.length - 2))).length = 4 := by rw [flat24_len, List.length_drop]; omega
 have HL2 := Aside0.mk hl2
 have i0 : (0 : Int) ≤ (i : Int) := by omega
 have i1 : (i : Int) ≤ (q.length : Int) := by omega
 have i2 : (q.length : Int) ≤ (cq : Int) := by omega
 have i3 : (0 : Int) ≤ (q.length : Int) - 2 := by omega
 have i4 : (q.length : Int) - 2 ≤ (q.length : Int) := by omega
 have i5 : (i : Int) ≤ (cq : Int) := by omega
 have i6 : (q.length : Int) - 2 ≤ (cq : Int) := by omega
 have j0 : (2 : Int) ≤ (q.length : Int) := by omega
 have c1 : ¬ cq = i := by omega
 have c2 : ¬ cq = q.length - 2 := by omega
 have tn : ((q.length : Int) - 2).toNat = q.length - 2 := by omega
 obtain ⟨W2, hW2⟩ : ∃ W2, W2 = w.drew.setRow gq (cur.toList.take (i * 2) ++ flat24 (q.drop (q.length - 2)) ++ cur.toList.drop (i * 2 + (flat24 (q.drop (q.length - 2))).length)).toArray := ⟨_, rfl⟩
 have hrun : (Builtin.copy_ #[22, 22] 3 #[.slice (some ⟨gq, i * 2, none⟩) (q.length - i) (cq - i), .slice (some ⟨gq, (q.length - 2) * 2, none⟩) (q.length - (q.length - 2)) (cq - (q.length - 2))]).run Try.prog w.drew = .ok (goInt (Nat.min (q.length - (q.length - 2)) (q.length - i))) W2 := by
  rw [hW2]
  exact run_copy_rows w.drew 22 22 3 24 gq (i * 2) _ _ ⟨gq, (q.length - 2) * 2, none⟩ _ _ cur 24 (flat24 (q.drop (q.length - 2))) 2 Try.underlying22 rfl hg (by rw [hl2, show q.length - (q.length - 2) = 2 by omega, show Nat.min 2 (q.length - i) = 2 from Nat.min_eq_left (by omega)]) (fun j v hj => by rw [Addr.add_lit]; exact hsrc j v hj) hfit (flat24_one _)
 have HB2 := Aside0.mk (show Below base w W2 by rw [hW2]; exact Go.below_setRow (below_drew (Below.refl _ _)) hbg _)
 rw [← hW2] at HS
 have t2 : W2.cell? ⟨p, 1, none⟩ = some (.slice (some ⟨gq, 0, none⟩) q.length cq) := (blk_cell HS.out.cell 1).trans rfl
 have f2 : W2.frozen? ⟨p, 1, none⟩ = false := blk_frozen HS.out.cell 1
 clear ht hg hfit hsrc htab hl2 hW2
 go_enter Try.func54, Try.ntmps54
 go_wp2_with fail
 go_region
 go_wp2_with fail
 exact bodyPost_end (results_none rfl _ _ _) rfl ⟨_, rfl, by rw [takeP_eq hi]; exact Tab.setq HS.out (by simp [Value.ownBlock]) (Kd.R_take HS.out.rq (by simp only [List.length_append, List.length_take, List.length_drop]; omega)), HB2.out.setCell HS.out.pb _⟩
end Go.Proofs.YtadhkfklkbdabaaR.G
end
