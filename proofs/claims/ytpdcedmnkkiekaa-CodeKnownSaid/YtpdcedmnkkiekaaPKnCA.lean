import Derived.Deep.RegionHeld3
import Derived.Deep.AppendLies
import Derived.Shelf.Abstract
import Derived.Test.YtpdcedmnkkiekaaPKnCO
import Derived.Lib.Hide
set_option linter.unusedVariables false
set_option linter.unusedSimpArgs false
section
namespace Go.Proofs.Ytpdcedmnkkiekaa.G
open Go.Shelf Go.RowKit Go.Proofs.YtpdcedmnkkiekaaW.PrintWords Go.Proofs.YtpdcedmnkkiekaaW.PrintLast Go.Proofs.YtpdcedmnkkiekaaW.PrintMore
set_option linter.unusedVariables false
set_option linter.unusedSimpArgs false
theorem N_append_lies {α : Type} (d : Kd α) {ops : Array Oper} {o : Oper} {a : Act} {K : Act → World → Prop} {Q : Exit → Act → World → Prop} {E : Prop} {w : World} (hgd : o.guard = none) (s x : Operand) (t e : TypeId) (z : Value) (bytes : Nat)
    (ho : o.op = .call { callee := .builtin .append, args := #[s, x], argTypes := #[t, t] }) (ht : Try.prog.underlying t = some (.slice e)) (hinfo : (Try.prog.info? e).map (fun i => (i.zero, i.size, i.bytes)) = some (some z, d.sz, bytes)) (hz : z.cells.size = d.sz) (hs0 : 0 < d.sz)
    (base : Nat) (v : Value) (xs : List α) (p : α) (cs : List Value) (ok okp : Nat → Prop) (b : Nat) (hs : a.eval s = v) (hx : a.eval x = .slice (some ⟨b, 0, none⟩) 1 1) (hb : w.heap[b]? = some (.cells cs.toArray e (0, 0)))
    (hp : Kd.FK d w okp p cs) (hokp : ∀ k, okp k → ok k ∧ some k ≠ v.ownBlock) (hfresh : ∀ k, w.heap.size ≤ k → ok k) (HO : Kd.N d e w base ok v xs) (hbase : base ≤ w.heap.size) (hlen : xs.length + 1 ≤ maxLen) (hl : (xs.length + 1) * bytes ≤ 140737488355328)
    (h : ∀ v1 w1, Kd.N d e w1 base ok v1 (xs ++ [p]) → w.grownBy w1 v.ownBlock → Below base w w1 → K (a.put o.dst v1) w1) :
    if Region.wanted o (yielded ops a.tmps) = true then Oper.wp Try.prog o a w K Q else E := by
  have hbv := Kd.N_base HO
  obtain ⟨h0, rows, hlr, hR, hf⟩ := HO
  obtain ⟨g0, inner, hown, hreps⟩ := hR
  obtain ⟨i, hi, hzi⟩ := Option.map_eq_some_iff.1 hinfo
  simp only [Prod.mk.injEq] at hzi
  obtain ⟨z1, z2, z3⟩ := hzi
  have hcl := d.K_len (Kd.FK_now hp)
  refine step_append_lies w hgd s x t ho base e i z d.sz bytes ht hi z1 z2 z3 hz hs0 v rows.length inner hs hown ⟨b, 0, none⟩ 1 1 cs hx (by rw [hcl, Nat.one_mul]) (fun j u hj => ?_) (d.K_one (Kd.FK_now hp)) (by decide) (by rw [hlr]; exact hlen) (by rw [hlr]; exact hl) hbase w.heap.size rfl ?_
  · rw [show (⟨b, 0, none⟩ : Addr).add j = ⟨b, j, none⟩ from by rw [Addr.add_lit, Nat.zero_add]]
    rw [blk_cell hb j]; simpa using hj
  · intro g cap w1 hown1 hg hat hlt
    have hat' : (Value.slice (some ⟨g, 0, none⟩) (rows.length + 1) cap).ownBlock = v.ownBlock ∨ ∃ c, (Value.slice (some ⟨g, 0, none⟩) (rows.length + 1) cap).ownBlock = some c ∧ w.heap.size ≤ c := by
      rcases hat with e1 | e1
      · left; rw [e1]; simp [Value.ownBlock]
      · right; exact ⟨g, by simp [Value.ownBlock], by omega⟩
    have hR1 := Kd.R_appended (d := Kd.raw d.sz) (ok := fun _ => True) (okp := fun _ => False) (p := cs) (fun _ _ => trivial) hreps ⟨rfl, hcl, d.K_one (Kd.FK_now hp)⟩ (fun _ hk => hk.elim) (fun _ _ => trivial) hown1 hg hat'
    refine h _ w1 (Kd.N_appended h0 hlr hf (ys := [p]) (news := [cs]) rfl (fun j y c hy hc => ?_) hokp hfresh hR1 hg hat') hg (Below.grown (Below.refl _ _) hg hbase hbv)
    rcases j with _ | j
    · simp only [List.getElem?_cons_zero, Option.some.injEq] at hy hc
      rw [← hy, ← hc]; exact hp
    · simp at hy
end Go.Proofs.Ytpdcedmnkkiekaa.G
end
