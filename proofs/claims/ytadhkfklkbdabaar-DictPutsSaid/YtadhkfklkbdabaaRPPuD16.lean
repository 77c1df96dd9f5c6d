import Derived.Deep.RegionLaw
import Derived.Deep.Cut
import Derived.WalkSpells
import Derived.Maps.OwnOps
import Derived.Maps.OwnSet
import Derived.Maps.Views
import Derived.Maps.Own
import Derived.DeepKeys5
import Derived.Outline
import Derived.Deep.AppendLies
import Derived.Laws.CopyRow
import Derived.Laws.CopyOwn
import Derived.StillTailTactics
import Derived.Test.YtadhkfklkbdabaaRPPuD15
import Derived.Test.YtadhkfklkbdabaaRPPuLoose
import Derived.Test.YtadhkfklkbdabaaRPPuW0
set_option linter.unusedVariables false
set_option linter.unusedSimpArgs false
section
namespace Go.Proofs.YtadhkfklkbdabaaR.G
open Go.RowKit Go.Proofs.YtadhkfklkbdabaaRW.PrintWords Go.Proofs.YtadhkfklkbdabaaRW.PrintLast Go.Proofs.YtadhkfklkbdabaaRW.PrintMore
set_option linter.unusedVariables false
set_option linter.unusedSimpArgs false
inductive Vk where
 | val (v : Value)
 | row2 (l : List S24)
 | rows3 (l : List S24) (v1 v2 : Value)
 | res (l : List S24)
def Vk.ok (base : Nat) : Vk → Value → World → Prop
 | .val v => fun u _ => u = v
 | .row2 l => fun u w => ∃ b, u = .slice (some ⟨b, 0, none⟩) l.length l.length ∧ w.heap[b]? = some (.cells (flat24 l).toArray 24 (0, 0))
 | .rows3 l v1 v2 => fun u w => ∃ b B0, u = .slice (some ⟨b, 0, none⟩) 3 3 ∧ w.heap[b]? = some (.cells #[.slice (some ⟨B0, 0, none⟩) l.length l.length, v1, v2] 22 (0, 0)) ∧ w.heap[B0]? = some (.cells (flat24 l).toArray 24 (0, 0))
 | .res l => fun u w => Kd.R k24 24 w base (fun _ => True) u l
def Vk.at (tab : List Vk) (base : Nat) (i : Nat) : Value → World → Prop := Vk.ok base (tab.getD i (.val undef))
theorem Vk.stable (tab : List Vk) (base : Nat) : ∀ i v (w w' : World), Vk.at tab base i v w → Below w.heap.size w w' → Vk.at tab base i v w' := by
 intro i v w w' h hb
 unfold Vk.at at h ⊢
 cases hk : tab.getD i (.val undef) with
 | val u => rw [hk] at h; exact h
 | row2 l =>
  rw [hk] at h
  obtain ⟨b, e, h1⟩ := h
  exact ⟨b, e, blk_below h1 hb⟩
 | rows3 l v1 v2 =>
  rw [hk] at h
  obtain ⟨b, B0, e, h1, h2⟩ := h
  exact ⟨b, B0, e, blk_below h1 hb, blk_below h2 hb⟩
 | res l => rw [hk] at h; exact Kd.R_below h hb
theorem R24_low {W : World} {base base' : Nat} {ok : Nat → Prop} {v : Value} {q : List S24} (h : Kd.R k24 24 W base ok v q) (hb : base' ≤ base) : Kd.R k24 24 W base' ok v q := by
 refine R24_mk h.1 ?_
 obtain ⟨hl, hx⟩ := R24_own h
 refine ⟨hl, ?_⟩
 rcases hx with hx | ⟨g, cap, cur, e1, e2, e3⟩
 ·exact .inl hx
 ·exact .inr ⟨g, cap, cur, e1, Nat.le_trans hb e2, e3⟩
theorem depsB {ops : Array Oper} (h : (ops.toList.zipIdx.all fun x => x.1.after.all fun e => !(Region.binds .any e) || decide (e.on < x.2)) = true) : ∀ (i : Nat) (o : Oper), ops[i]? = some o → ∀ e ∈ o.after, Region.binds .any e = true → e.on < i := by
 intro i o ho e he hb
 have h1 := List.all_eq_true.1 h (o, i) (List.mem_zipIdx_iff_getElem?.2 (by rw [Array.getElem?_toList]; exact ho))
 have h2 := Array.all_eq_true_iff_forall_mem.1 h1 e he
 rw [hb] at h2
 exact of_decide_eq_true (by simpa using h2)
theorem all_listedB {ops : Array Oper} (hop : ∀ (i : Nat) (o : Oper), ops[i]? = some o → ∀ e ∈ o.after, Region.binds .any e = true → e.on < i) {listed : Array Bool} (hl : listed.size = ops.size) (hr : Region.ready .any ops listed = []) : ∀ i, i < ops.size → listed.getD i false = true := by
 intro i
 induction i using Nat.strongRecOn with
 | ind i ih =>
  intro hi
  cases h : listed.getD i false with
  | true => rfl
  | false =>
   exfalso
   have ho : ops[i]? = some ops[i] := Array.getElem?_eq_getElem hi
   have : i ∈ Region.ready .any ops listed := mem_ready.2 ⟨by
    have h2 : i < listed.size := by omega
    simpa [h2] using h, ops[i], ho, fun e he hb => ih e.on (hop i _ ho e he hb) (Nat.lt_trans (hop i _ ho e he hb) hi)⟩
   rw [hr] at this; cases this
noncomputable def qops : Array Oper := opsOf Try.f10 8
def qtab (l al q : List S24) (ad : Addr) (c p : Nat) (Aa : Option Addr) (ca : Nat) (Aq : Option Addr) (cq : Nat) (vg : Value) : List Vk := [(.val (.slice (some ad) l.length c)), (.val (.pointer (some ad))), (.val (.agg #[.int .i64 (rd_T24 l 0).f0, .int .i64 (rd_T24 l 0).f1])), (.val (.pointer (some ⟨p, 0, none⟩))), (.val (.pointer (some ⟨p, 0, none⟩))), (.val (.pointer (some ⟨p, 0, none⟩))), (.val (.slice Aa al.length ca)), (.val (.int .i64 (al.length : Int))), (.val (.agg #[.int .i64 3, .int .i64 (al.length : Int)])), (.row2 [rd_T24 l 0, ⟨3, (al.length : Int)⟩]), (.val (.pointer (some ⟨p, 0, none⟩))), (.val (.pointer (some ⟨p, 0, none⟩))), (.val (.pointer (some ⟨p, 0, none⟩))), (.val (.slice Aa al.length ca)), (.val (.pointer (some ⟨p, 0, none⟩))), (.val (.pointer (some ⟨p, 0, none⟩))), (.val (.pointer (some ⟨p, 1, none⟩))), (.val (.slice Aq q.length cq)), (.rows3 [rd_T24 l 0, ⟨3, (al.length : Int)⟩] (.slice Aa al.length ca) (.slice Aq q.length cq)), (.res ([rd_T24 l 0, ⟨3, (al.length : Int)⟩] ++ al ++ q)), (.val (.pointer (some ⟨p, 0, none⟩))), (.val (.pointer (some ⟨p, 0, none⟩))), (.val (.pointer (some ⟨p, 2, none⟩))), (.val (vg)), (.res ([rd_T24 l 0, ⟨3, (al.length : Int)⟩] ++ al ++ q)), (.val (vg)), (.val (.int .i64 0))]
theorem qdsts : ∀ (i j : Nat) (oi oj : Oper) (d : Nat), qops[i]? = some oi → qops[j]? = some oj → oi.dst = some d → oj.dst = some d → i = j := Loose.dsts_of (l := [some 51, some 52, some 53, some 54, some 55, some 56, some 57, some 58, some 59, some 60, some 61, some 62, some 63, some 64, some 65, some 66, some 67, some 68, some 69, some 70, some 71, some 72, some 73, some 74, some 6, some 7, some 8]) (by kernel_rfl) (by decide)
theorem qdeps : ∀ (i : Nat) (o : Oper), qops[i]? = some o → ∀ e ∈ o.after, Region.binds .any e = true → e.on < i := depsB (by kernel_rfl)
set_option maxRecDepth 100000 in
theorem qstep0 (l al q : List S24) (ad : Addr) (c p : Nat) (Aa : Option Addr) (ca : Nat) (Aq : Option Addr) (cq : Nat) (vg : Value) (w0 : World) (a0 : Act) (Q : Exit → Act → World → Prop) (q0 : a0.tmps.getD 0 undef = .slice (some ad) l.length c) (q13 : a0.tmps.getD 13 undef = .pointer (some ⟨p, 0, none⟩)) (kp : w0.heap[p]? = some (.cells #[.slice Aa al.length ca, .slice Aq q.length cq, vg] 60 (0, 0))) (hC : Kd.C k24 w0 (some ad) l.length l) (hCa : Kd.C k24 w0 Aa al.length al) (hCq : Kd.C k24 w0 Aq q.length q) (hn : 0 < l.length) (hla : al.length ≤ 1500000) (hlq : q.length ≤ 1500000) : ∀ o, qops[0]? = some o → Loose.Step Try.prog qops (Vk.at (qtab l al q ad c p Aa ca Aq cq vg) w0.heap.size) w0 a0 Q 0 o := by
 intro o ho
 have ho2 : (some ({ dst := some 51, op := Go.Op.move (Go.Operand.tmp 0), type := 22, pos := "dict.go:158", after := #[], guard := none }) : Option Oper) = some o := ho
 obtain rfl := Option.some.inj ho2
 clear ho2 ho
 intro listed a w hd hI
 refine ⟨Loose.wanted_none rfl _, fun K hK => ?_⟩
 have e1 : a.tmps.getD 0 undef = .slice (some ad) l.length c := (hI.others 0 (Loose.no_dst (by kernel_rfl))).trans q0
 refine Loose.value_step (v := .slice (some ad) l.length c) (w' := w) ?_ (hK _ _ (Below.refl _ _) rfl)
 unfold execOp
 simp only [Act.eval, e1]
 go_simp
set_option maxRecDepth 100000 in
theorem qstep1 (l al q : List S24) (ad : Addr) (c p : Nat) (Aa : Option Addr) (ca : Nat) (Aq : Option Addr) (cq : Nat) (vg : Value) (w0 : World) (a0 : Act) (Q : Exit → Act → World → Prop) (q0 : a0.tmps.getD 0 undef = .slice (some ad) l.length c) (q13 : a0.tmps.getD 13 undef = .pointer (some ⟨p, 0, none⟩)) (kp : w0.heap[p]? = some (.cells #[.slice Aa al.length ca, .slice Aq q.length cq, vg] 60 (0, 0))) (hC : Kd.C k24 w0 (some ad) l.length l) (hCa : Kd.C k24 w0 Aa al.length al) (hCq : Kd.C k24 w0 Aq q.length q) (hn : 0 < l.length) (hla : al.length ≤ 1500000) (hlq : q.length ≤ 1500000) : ∀ o, qops[1]? = some o → Loose.Step Try.prog qops (Vk.at (qtab l al q ad c p Aa ca Aq cq vg) w0.heap.size) w0 a0 Q 1 o := by
 intro o ho
 have ho2 : (some ({ dst := some 52, op := Go.Op.indexAddr 22 (Go.Operand.tmp 51) (Go.Operand.const (Go.Value.int Go.IntKind.i64 0)), type := 0, pos := "dict.go:158", after := #[{ on := 0, ground := Go.Ground.data }], guard := none }) : Option Oper) = some o := ho
 obtain rfl := Option.some.inj ho2
 clear ho2 ho
 intro listed a w hd hI
 have h51 : ((.val (.slice (some ad) l.length c)) : Vk).ok w0.heap.size (a.tmps.getD 51 undef) w := hI.has 0 _ 51 rfl rfl (hd ⟨0, .data⟩ (by simp) rfl)
 refine ⟨Loose.wanted_none rfl _, fun K hK => ?_⟩
 replace h51 : a.tmps.getD 51 undef = (.slice (some ad) l.length c) := h51
 have i0 : (0 : Int) < (l.length : Int) := by omega
 refine Loose.value_step (v := .pointer (some ad)) (w' := w) ?_ (hK _ _ (Below.refl _ _) rfl)
 unfold execOp
 simp only [Act.eval, h51]
 go_simp
set_option maxRecDepth 100000 in
theorem qstep2 (l al q : List S24) (ad : Addr) (c p : Nat) (Aa : Option Addr) (ca : Nat) (Aq : Option Addr) (cq : Nat) (vg : Value) (w0 : World) (a0 : Act) (Q : Exit → Act → World → Prop) (q0 : a0.tmps.getD 0 undef = .slice (some ad) l.length c) (q13 : a0.tmps.getD 13 undef = .pointer (some ⟨p, 0, none⟩)) (kp : w0.heap[p]? = some (.cells #[.slice Aa al.length ca, .slice Aq q.length cq, vg] 60 (0, 0))) (hC : Kd.C k24 w0 (some ad) l.length l) (hCa : Kd.C k24 w0 Aa al.length al) (hCq : Kd.C k24 w0 Aq q.length q) (hn : 0 < l.length) (hla : al.length ≤ 1500000) (hlq : q.length ≤ 1500000) : ∀ o, qops[2]? = some o → Loose.Step Try.prog qops (Vk.at (qtab l al q ad c p Aa ca Aq cq vg) w0.heap.size) w0 a0 Q 2 o := by
 intro o ho
 have ho2 : (some ({ dst := some 53, op := Go.Op.load 24 (Go.Operand.tmp 52), type := 24, pos := "dict.go:158", after := #[{ on := 1, ground := Go.Ground.data }], guard := none }) : Option Oper) = some o := ho
 obtain rfl := Option.some.inj ho2
 clear ho2 ho
 intro listed a w hd hI
 have h52 : ((.val (.pointer (some ad))) : Vk).ok w0.heap.size (a.tmps.getD 52 undef) w := hI.has 1 _ 52 rfl rfl (hd ⟨1, .data⟩ (by simp) rfl)
 refine ⟨Loose.wanted_none rfl _, fun K hK => ?_⟩
 replace h52 : a.tmps.getD 52 undef = (.pointer (some ad)) := h52
 obtain ⟨ad', hA, c00, c01⟩ := at_T24 (Kd.C_below hC hI.below) 0 (by omega) (by omega)
 injection hA with hA
 subst hA
 simp only [show (0 : Int).toNat = 0 from rfl, Nat.reduceMul, Nat.reduceEqDiff, Go.Addr.add, ↓reduceIte] at c00 c01
 refine Loose.value_step (v := .agg #[.int .i64 (rd_T24 l 0).f0, .int .i64 (rd_T24 l 0).f1]) (w' := w) ?_ (hK _ _ (Below.refl _ _) rfl)
 unfold execOp
 simp only [Act.eval, h52]
 go_simp
set_option maxRecDepth 100000 in
theorem qstep3 (l al q : List S24) (ad : Addr) (c p : Nat) (Aa : Option Addr) (ca : Nat) (Aq : Option Addr) (cq : Nat) (vg : Value) (w0 : World) (a0 : Act) (Q : Exit → Act → World → Prop) (q0 : a0.tmps.getD 0 undef = .slice (some ad) l.length c) (q13 : a0.tmps.getD 13 undef = .pointer (some ⟨p, 0, none⟩)) (kp : w0.heap[p]? = some (.cells #[.slice Aa al.length ca, .slice Aq q.length cq, vg] 60 (0, 0))) (hC : Kd.C k24 w0 (some ad) l.length l) (hCa : Kd.C k24 w0 Aa al.length al) (hCq : Kd.C k24 w0 Aq q.length q) (hn : 0 < l.length) (hla : al.length ≤ 1500000) (hlq : q.length ≤ 1500000) : ∀ o, qops[3]? = some o → Loose.Step Try.prog qops (Vk.at (qtab l al q ad c p Aa ca Aq cq vg) w0.heap.size) w0 a0 Q 3 o := by
 intro o ho
 have ho2 : (some ({ dst := some 54, op := Go.Op.move (Go.Operand.tmp 13), type := 58, pos := "dict.go:158", after := #[], guard := none }) : Option Oper) = some o := ho
 obtain rfl := Option.some.inj ho2
 clear ho2 ho
 intro listed a w hd hI
 refine ⟨Loose.wanted_none rfl _, fun K hK => ?_⟩
 have e1 : a.tmps.getD 13 undef = .pointer (some ⟨p, 0, none⟩) := (hI.others 13 (Loose.no_dst (by kernel_rfl))).trans q13
 refine Loose.value_step (v := .pointer (some ⟨p, 0, none⟩)) (w' := w) ?_ (hK _ _ (Below.refl _ _) rfl)
 unfold execOp
 simp only [Act.eval, e1]
 go_simp
set_option maxRecDepth 100000 in
theorem qstep4 (l al q : List S24) (ad : Addr) (c p : Nat) (Aa : Option Addr) (ca : Nat) (Aq : Option Addr) (cq : Nat) (vg : Value) (w0 : World) (a0 : Act) (Q : Exit → Act → World → Prop) (q0 : a0.tmps.getD 0 undef = .slice (some ad) l.length c) (q13 : a0.tmps.getD 13 undef = .pointer (some ⟨p, 0, none⟩)) (kp : w0.heap[p]? = some (.cells #[.slice Aa al.length ca, .slice Aq q.length cq, vg] 60 (0, 0))) (hC : Kd.C k24 w0 (some ad) l.length l) (hCa : Kd.C k24 w0 Aa al.length al) (hCq : Kd.C k24 w0 Aq q.length q) (hn : 0 < l.length) (hla : al.length ≤ 1500000) (hlq : q.length ≤ 1500000) : ∀ o, qops[4]? = some o → Loose.Step Try.prog qops (Vk.at (qtab l al q ad c p Aa ca Aq cq vg) w0.heap.size) w0 a0 Q 4 o := by
 intro o ho
 have ho2 : (some ({ dst := some 55, op := Go.Op.nilCheck (Go.Operand.tmp 54), type := 0, pos := "dict.go:158", after := #[{ on := 3, ground := Go.Ground.data }], guard := none }) : Option Oper) = some o := ho
 obtain rfl := Option.some.inj ho2
 clear ho2 ho
 intro listed a w hd hI
 have h54 : ((.val (.pointer (some ⟨p, 0, none⟩))) : Vk).ok w0.heap.size (a.tmps.getD 54 undef) w := hI.has 3 _ 54 rfl rfl (hd ⟨3, .data⟩ (by simp) rfl)
 refine ⟨Loose.wanted_none rfl _, fun K hK => ?_⟩
 replace h54 : a.tmps.getD 54 undef = (.pointer (some ⟨p, 0, none⟩)) := h54
 refine Loose.value_step (v := .pointer (some ⟨p, 0, none⟩)) (w' := w) ?_ (hK _ _ (Below.refl _ _) rfl)
 unfold execOp
 simp only [Act.eval, h54]
 go_simp
set_option maxRecDepth 100000 in
theorem qstep5 (l al q : List S24) (ad : Addr) (c p : Nat) (Aa : Option Addr) (ca : Nat) (Aq : Option Addr) (cq : Nat) (vg : Value) (w0 : World) (a0 : Act) (Q : Exit → Act → World → Prop) (q0 : a0.tmps.getD 0 undef = .slice (some ad) l.length c) (q13 : a0.tmps.getD 13 undef = .pointer (some ⟨p, 0, none⟩)) (kp : w0.heap[p]? = some (.cells #[.slice Aa al.length ca, .slice Aq q.length cq, vg] 60 (0, 0))) (hC : Kd.C k24 w0 (some ad) l.length l) (hCa : Kd.C k24 w0 Aa al.length al) (hCq : Kd.C k24 w0 Aq q.length q) (hn : 0 < l.length) (hla : al.length ≤ 1500000) (hlq : q.length ≤ 1500000) : ∀ o, qops[5]? = some o → Loose.Step Try.prog qops (Vk.at (qtab l al q ad c p Aa ca Aq cq vg) w0.heap.size) w0 a0 Q 5 o := by
 intro o ho
 have ho2 : (some ({ dst := some 56, op := Go.Op.fieldAddr 60 (Go.Operand.tmp 55) 0, type := 0, pos := "dict.go:158", after := #[{ on := 4, ground := Go.Ground.data }], guard := none }) : Option Oper) = some o := ho
 obtain rfl := Option.some.inj ho2
 clear ho2 ho
 intro listed a w hd hI
 have h55 : ((.val (.pointer (some ⟨p, 0, none⟩))) : Vk).ok w0.heap.size (a.tmps.getD 55 undef) w := hI.has 4 _ 55 rfl rfl (hd ⟨4, .data⟩ (by simp) rfl)
 refine ⟨Loose.wanted_none rfl _, fun K hK => ?_⟩
 replace h55 : a.tmps.getD 55 undef = (.pointer (some ⟨p, 0, none⟩)) := h55
 refine Loose.value_step (v := .pointer (some ⟨p, 0, none⟩)) (w' := w) ?_ (hK _ _ (Below.refl _ _) rfl)
 unfold execOp
 simp only [Act.eval, h55]
 go_simp
set_option maxRecDepth 100000 in
theorem qstep6 (l al q : List S24) (ad : Addr) (c p : Nat) (Aa : Option Addr) (ca : Nat) (Aq : Option Addr) (cq : Nat) (vg : Value) (w0 : World) (a0 : Act) (Q : Exit → Act → World → Prop) (q0 : a0.tmps.getD 0 undef = .slice (some ad) l.length c) (q13 : a0.tmps.getD 13 undef = .pointer (some ⟨p, 0, none⟩)) (kp : w0.heap[p]? = some (.cells #[.slice Aa al.length ca, .slice Aq q.length cq, vg] 60 (0, 0))) (hC : Kd.C k24 w0 (some ad) l.length l) (hCa : Kd.C k24 w0 Aa al.length al) (hCq : Kd.C k24 w0 Aq q.length q) (hn : 0 < l.length) (hla : al.length ≤ 1500000) (hlq : q.length ≤ 1500000) : ∀ o, qops[6]? = some o → Loose.Step Try.prog qops (Vk.at (qtab l al q ad c p Aa ca Aq cq vg) w0.heap.size) w0 a0 Q 6 o := by
 intro o ho
 have ho2 : (some ({ dst := some 57, op := Go.Op.load 22 (Go.Operand.tmp 56), type := 22, pos := "dict.go:158", after := #[{ on := 5, ground := Go.Ground.data }], guard := none }) : Option Oper) = some o := ho
 obtain rfl := Option.some.inj ho2
 clear ho2 ho
 intro listed a w hd hI
 have h56 : ((.val (.pointer (some ⟨p, 0, none⟩))) : Vk).ok w0.heap.size (a.tmps.getD 56 undef) w := hI.has 5 _ 56 rfl rfl (hd ⟨5, .data⟩ (by simp) rfl)
 refine ⟨Loose.wanted_none rfl _, fun K hK => ?_⟩
 replace h56 : a.tmps.getD 56 undef = (.pointer (some ⟨p, 0, none⟩)) := h56
 have hk := (hI.below.block p (blk_lt kp)).trans kp
 have hc0 : w.cell? ⟨p, 0, none⟩ = some (.slice Aa al.length ca) := (blk_cell hk 0).trans rfl
 refine Loose.value_step (v := .slice Aa al.length ca) (w' := w) ?_ (hK _ _ (Below.refl _ _) rfl)
 unfold execOp
 simp only [Act.eval, h56]
 go_simp
set_option maxRecDepth 100000 in
theorem qstep7 (l al q : List S24) (ad : Addr) (c p : Nat) (Aa : Option Addr) (ca : Nat) (Aq : Option Addr) (cq : Nat) (vg : Value) (w0 : World) (a0 : Act) (Q : Exit → Act → World → Prop) (q0 : a0.tmps.getD 0 undef = .slice (some ad) l.length c) (q13 : a0.tmps.getD 13 undef = .pointer (some ⟨p, 0, none⟩)) (kp : w0.heap[p]? = some (.cells #[.slice Aa al.length ca, .slice Aq q.length cq, vg] 60 (0, 0))) (hC : Kd.C k24 w0 (some ad) l.length l) (hCa : Kd.C k24 w0 Aa al.length al) (hCq : Kd.C k24 w0 Aq q.length q) (hn : 0 < l.length) (hla : al.length ≤ 1500000) (hlq : q.length ≤ 1500000) : ∀ o, qops[7]? = some o → Loose.Step Try.prog qops (Vk.at (qtab l al q ad c p Aa ca Aq cq vg) w0.heap.size) w0 a0 Q 7 o := by
 intro o ho
 have ho2 : (some ({ dst := some 58, op := Go.Op.call { callee := Go.Callee.builtin Go.Builtin.len, args := #[Go.Operand.tmp 57], argTypes := #[22] }, type := 3, pos := "dict.go:158", after := #[{ on := 6, ground := Go.Ground.data }], guard := none }) : Option Oper) = some o := ho
 obtain rfl := Option.some.inj ho2
 clear ho2 ho
 intro listed a w hd hI
 have h57 : ((.val (.slice Aa al.length ca)) : Vk).ok w0.heap.size (a.tmps.getD 57 undef) w := hI.has 6 _ 57 rfl rfl (hd ⟨6, .data⟩ (by simp) rfl)
 refine ⟨Loose.wanted_none rfl _, fun K hK => ?_⟩
 replace h57 : a.tmps.getD 57 undef = (.slice Aa al.length ca) := h57
 refine Loose.value_step (v := .int .i64 (al.length : Int)) (w' := w) ?_ (hK _ _ (Below.refl _ _) rfl)
 unfold execOp
 simp only [Act.eval, h57]
 go_simp
set_option maxRecDepth 100000 in
theorem qstep8 (l al q : List S24) (ad : Addr) (c p : Nat) (Aa : Option Addr) (ca : Nat) (Aq : Option Addr) (cq : Nat) (vg : Value) (w0 : World) (a0 : Act) (Q : Exit → Act → World → Prop) (q0 : a0.tmps.getD 0 undef = .slice (some ad) l.length c) (q13 : a0.tmps.getD 13 undef = .pointer (some ⟨p, 0, none⟩)) (kp : w0.heap[p]? = some (.cells #[.slice Aa al.length ca, .slice Aq q.length cq, vg] 60 (0, 0))) (hC : Kd.C k24 w0 (some ad) l.length l) (hCa : Kd.C k24 w0 Aa al.length al) (hCq : Kd.C k24 w0 Aq q.length q) (hn : 0 < l.length) (hla : al.length ≤ 1500000) (hlq : q.length ≤ 1500000) : ∀ o, qops[8]? = some o → Loose.Step Try.prog qops (Vk.at (qtab l al q ad c p Aa ca Aq cq vg) w0.heap.size) w0 a0 Q 8 o := by
 intro o ho
 have ho2 : (some ({ dst := some 59, op := Go.Op.call { callee := Go.Callee.value (Go.Operand.func 36), args := #[Go.Operand.tmp 58], argTypes := #[2] }, type := 24, pos := "dict.go:158", after := #[{ on := 7, ground := Go.Ground.data }], guard := none }) : Option Oper) = some o := ho
 obtain rfl := Option.some.inj ho2
 clear ho2 ho
 intro listed a w hd hI
 have h58 : ((.val (.int .i64 (al.length : Int))) : Vk).ok w0.heap.size (a.tmps.getD 58 undef) w := hI.has 7 _ 58 rfl rfl (hd ⟨7, .data⟩ (by simp) rfl)
 refine ⟨Loose.wanted_none rfl _, fun K hK => ?_⟩
 replace h58 : a.tmps.getD 58 undef = (.int .i64 (al.length : Int)) := h58
 refine Loose.call_step Try.func36 (by kernel_rfl) rfl #[.int .i64 (al.length : Int)] rfl (by simp [Act.eval, h58]) ((dict_integer.calls (al.length : Int) _ _ w rfl).mono ?_)
 rintro e w' ⟨rfl, hb⟩
 exact ⟨_, rfl, hK _ w' hb rfl⟩
set_option maxRecDepth 100000 in
theorem qstep9 (l al q : List S24) (ad : Addr) (c p : Nat) (Aa : Option Addr) (ca : Nat) (Aq : Option Addr) (cq : Nat) (vg : Value) (w0 : World) (a0 : Act) (Q : Exit → Act → World → Prop) (q0 : a0.tmps.getD 0 undef = .slice (some ad) l.length c) (q13 : a0.tmps.getD 13 undef = .pointer (some ⟨p, 0, none⟩)) (kp : w0.heap[p]? = some (.cells #[.slice Aa al.length ca, .slice Aq q.length cq, vg] 60 (0, 0))) (hC : Kd.C k24 w0 (some ad) l.length l) (hCa : Kd.C k24 w0 Aa al.length al) (hCq : Kd.C k24 w0 Aq q.length q) (hn : 0 < l.length) (hla : al.length ≤ 1500000) (hlq : q.length ≤ 1500000) : ∀ o, qops[9]? = some o → Loose.Step Try.prog qops (Vk.at (qtab l al q ad c p Aa ca Aq cq vg) w0.heap.size) w0 a0 Q 9 o := by
 intro o ho
 have ho2 : (some ({ dst := some 60, op := Go.Op.buildSlice 22 2 #[(0, Go.Operand.tmp 53), (1, Go.Operand.tmp 59)], type := 22, pos := "dict.go:158", after := #[{ on := 2, ground := Go.Ground.data }, { on := 8, ground := Go.Ground.data }], guard := none }) : Option Oper) = some o := ho
 obtain rfl := Option.some.inj ho2
 clear ho2 ho
 intro listed a w hd hI
 have h53 : ((.val (.agg #[.int .i64 (rd_T24 l 0).f0, .int .i64 (rd_T24 l 0).f1])) : Vk).ok w0.heap.size (a.tmps.getD 53 undef) w := hI.has 2 _ 53 rfl rfl (hd ⟨2, .data⟩ (by simp) rfl)
 have h59 : ((.val (.agg #[.int .i64 3, .int .i64 (al.length : Int)])) : Vk).ok w0.heap.size (a.tmps.getD 59 undef) w := hI.has 8 _ 59 rfl rfl (hd ⟨8, .data⟩ (by simp) rfl)
 refine ⟨Loose.wanted_none rfl _, fun K hK => ?_⟩
 replace h53 : a.tmps.getD 53 undef = (.agg #[.int .i64 (rd_T24 l 0).f0, .int .i64 (rd_T24 l 0).f1]) := h53
 replace h59 : a.tmps.getD 59 undef = (.agg #[.int .i64 3, .int .i64 (al.length : Int)]) := h59
 refine Loose.value_step (v := .slice (some ⟨w.heap.size, 0, none⟩) 2 2) (w' := w.alloc (.cells #[.int .i64 (rd_T24 l 0).f0, .int .i64 (rd_T24 l 0).f1, .int .i64 3, .int .i64 (al.length : Int)] 24)) ?_ (hK _ _ (below_alloc (Below.refl _ _) _) (⟨w.heap.size, rfl, blk_new _ _⟩))
 unfold execOp
 simp only [Act.eval, List.map_toArray, List.map_cons, List.map_nil, h53, h59]
 go_simp
set_option maxRecDepth 100000 in
theorem qstep10 (l al q : List S24) (ad : Addr) (c p : Nat) (Aa : Option Addr) (ca : Nat) (Aq : Option Addr) (cq : Nat) (vg : Value) (w0 : World) (a0 : Act) (Q : Exit → Act → World → Prop) (q0 : a0.tmps.getD 0 undef = .slice (some ad) l.length c) (q13 : a0.tmps.getD 13 undef = .pointer (some ⟨p, 0, none⟩)) (kp : w0.heap[p]? = some (.cells #[.slice Aa al.length ca, .slice Aq q.length cq, vg] 60 (0, 0))) (hC : Kd.C k24 w0 (some ad) l.length l) (hCa : Kd.C k24 w0 Aa al.length al) (hCq : Kd.C k24 w0 Aq q.length q) (hn : 0 < l.length) (hla : al.length ≤ 1500000) (hlq : q.length ≤ 1500000) : ∀ o, qops[10]? = some o → Loose.Step Try.prog qops (Vk.at (qtab l al q ad c p Aa ca Aq cq vg) w0.heap.size) w0 a0 Q 10 o := by
 intro o ho
 have ho2 : (some ({ dst := some 61, op := Go.Op.move (Go.Operand.tmp 13), type := 58, pos := "dict.go:158", after := #[], guard := none }) : Option Oper) = some o := ho
 obtain rfl := Option.some.inj ho2
 clear ho2 ho
 intro listed a w hd hI
 refine ⟨Loose.wanted_none rfl _, fun K hK => ?_⟩
 have e1 : a.tmps.getD 13 undef = .pointer (some ⟨p, 0, none⟩) := (hI.others 13 (Loose.no_dst (by kernel_rfl))).trans q13
 refine Loose.value_step (v := .pointer (some ⟨p, 0, none⟩)) (w' := w) ?_ (hK _ _ (Below.refl _ _) rfl)
 unfold execOp
 simp only [Act.eval, e1]
 go_simp
set_option maxRecDepth 100000 in
theorem qstep11 (l al q : List S24) (ad : Addr) (c p : Nat) (Aa : Option Addr) (ca : Nat) (Aq : Option Addr) (cq : Nat) (vg : Value) (w0 : World) (a0 : Act) (Q : Exit → Act → World → Prop) (q0 : a0.tmps.getD 0 undef = .slice (some ad) l.length c) (q13 : a0.tmps.getD 13 undef = .pointer (some ⟨p, 0, none⟩)) (kp : w0.heap[p]? = some (.cells #[.slice Aa al.length ca, .slice Aq q.length cq, vg] 60 (0, 0))) (hC : Kd.C k24 w0 (some ad) l.length l) (hCa : Kd.C k24 w0 Aa al.length al) (hCq : Kd.C k24 w0 Aq q.length q) (hn : 0 < l.length) (hla : al.length ≤ 1500000) (hlq : q.length ≤ 1500000) : ∀ o, qops[11]? = some o → Loose.Step Try.prog qops (Vk.at (qtab l al q ad c p Aa ca Aq cq vg) w0.heap.size) w0 a0 Q 11 o := by
 intro o ho
 have ho2 : (some ({ dst := some 62, op := Go.Op.nilCheck (Go.Operand.tmp 61), type := 0, pos := "dict.go:158", after := #[{ on := 10, ground := Go.Ground.data }], guard := none }) : Option Oper) = some o := ho
 obtain rfl := Option.some.inj ho2
 clear ho2 ho
 intro listed a w hd hI
 have h61 : ((.val (.pointer (some ⟨p, 0, none⟩))) : Vk).ok w0.heap.size (a.tmps.getD 61 undef) w := hI.has 10 _ 61 rfl rfl (hd ⟨10, .data⟩ (by simp) rfl)
 refine ⟨Loose.wanted_none rfl _, fun K hK => ?_⟩
 replace h61 : a.tmps.getD 61 undef = (.pointer (some ⟨p, 0, none⟩)) := h61
 refine Loose.value_step (v := .pointer (some ⟨p, 0, none⟩)) (w' := w) ?_ (hK _ _ (Below.refl _ _) rfl)
 unfold execOp
 simp only [Act.eval, h61]
 go_simp
set_option maxRecDepth 100000 in
theorem qstep12 (l al q : List S24) (ad : Addr) (c p : Nat) (Aa : Option Addr) (ca : Nat) (Aq : Option Addr) (cq : Nat) (vg : Value) (w0 : World) (a0 : Act) (Q : Exit → Act → World → Prop) (q0 : a0.tmps.getD 0 undef = .slice (some ad) l.length c) (q13 : a0.tmps.getD 13 undef = .pointer (some ⟨p, 0, none⟩)) (kp : w0.heap[p]? = some (.cells #[.slice Aa al.length ca, .slice Aq q.length cq, vg] 60 (0, 0))) (hC : Kd.C k24 w0 (some ad) l.length l) (hCa : Kd.C k24 w0 Aa al.length al) (hCq : Kd.C k24 w0 Aq q.length q) (hn : 0 < l.length) (hla : al.length ≤ 1500000) (hlq : q.length ≤ 1500000) : ∀ o, qops[12]? = some o → Loose.Step Try.prog qops (Vk.at (qtab l al q ad c p Aa ca Aq cq vg) w0.heap.size) w0 a0 Q 12 o := by
 intro o ho
 have ho2 : (some ({ dst := some 63, op := Go.Op.fieldAddr 60 (Go.Operand.tmp 62) 0, type := 0, pos := "dict.go:158", after := #[{ on := 11, ground := Go.Ground.data }], guard := none }) : Option Oper) = some o := ho
 obtain rfl := Option.some.inj ho2
 clear ho2 ho
 intro listed a w hd hI
 have h62 : ((.val (.pointer (some ⟨p, 0, none⟩))) : Vk).ok w0.heap.size (a.tmps.getD 62 undef) w := hI.has 11 _ 62 rfl rfl (hd ⟨11, .data⟩ (by simp) rfl)
 refine ⟨Loose.wanted_none rfl _, fun K hK => ?_⟩
 replace h62 : a.tmps.getD 62 undef = (.pointer (some ⟨p, 0, none⟩)) := h62
 refine Loose.value_step (v := .pointer (some ⟨p, 0, none⟩)) (w' := w) ?_ (hK _ _ (Below.refl _ _) rfl)
 unfold execOp
 simp only [Act.eval, h62]
 go_simp
set_option maxRecDepth 100000 in
theorem qstep13 (l al q : List S24) (ad : Addr) (c p : Nat) (Aa : Option Addr) (ca : Nat) (Aq : Option Addr) (cq : Nat) (vg : Value) (w0 : World) (a0 : Act) (Q : Exit → Act → World → Prop) (q0 : a0.tmps.getD 0 undef = .slice (some ad) l.length c) (q13 : a0.tmps.getD 13 undef = .pointer (some ⟨p, 0, none⟩)) (kp : w0.heap[p]? = some (.cells #[.slice Aa al.length ca, .slice Aq q.length cq, vg] 60 (0, 0))) (hC : Kd.C k24 w0 (some ad) l.length l) (hCa : Kd.C k24 w0 Aa al.length al) (hCq : Kd.C k24 w0 Aq q.length q) (hn : 0 < l.length) (hla : al.length ≤ 1500000) (hlq : q.length ≤ 1500000) : ∀ o, qops[13]? = some o → Loose.Step Try.prog qops (Vk.at (qtab l al q ad c p Aa ca Aq cq vg) w0.heap.size) w0 a0 Q 13 o := by
 intro o ho
 have ho2 : (some ({ dst := some 64, op := Go.Op.load 22 (Go.Operand.tmp 63), type := 22, pos := "dict.go:158", after := #[{ on := 12, ground := Go.Ground.data }], guard := none }) : Option Oper) = some o := ho
 obtain rfl := Option.some.inj ho2
 clear ho2 ho
 intro listed a w hd hI
 have h63 : ((.val (.pointer (some ⟨p, 0, none⟩))) : Vk).ok w0.heap.size (a.tmps.getD 63 undef) w := hI.has 12 _ 63 rfl rfl (hd ⟨12, .data⟩ (by simp) rfl)
 refine ⟨Loose.wanted_none rfl _, fun K hK => ?_⟩
 replace h63 : a.tmps.getD 63 undef = (.pointer (some ⟨p, 0, none⟩)) := h63
 have hk := (hI.below.block p (blk_lt kp)).trans kp
 have hc0 : w.cell? ⟨p, 0, none⟩ = some (.slice Aa al.length ca) := (blk_cell hk 0).trans rfl
 refine Loose.value_step (v := .slice Aa al.length ca) (w' := w) ?_ (hK _ _ (Below.refl _ _) rfl)
 unfold execOp
 simp only [Act.eval, h63]
 go_simp
set_option maxRecDepth 100000 in
theorem qstep14 (l al q : List S24) (ad : Addr) (c p : Nat) (Aa : Option Addr) (ca : Nat) (Aq : Option Addr) (cq : Nat) (vg : Value) (w0 : World) (a0 : Act) (Q : Exit → Act → World → Prop) (q0 : a0.tmps.getD 0 undef = .slice (some ad) l.length c) (q13 : a0.tmps.getD 13 undef = .pointer (some ⟨p, 0, none⟩)) (kp : w0.heap[p]? = some (.cells #[.slice Aa al.length ca, .slice Aq q.length cq, vg] 60 (0, 0))) (hC : Kd.C k24 w0 (some ad) l.length l) (hCa : Kd.C k24 w0 Aa al.length al) (hCq : Kd.C k24 w0 Aq q.length q) (hn : 0 < l.length) (hla : al.length ≤ 1500000) (hlq : q.length ≤ 1500000) : ∀ o, qops[14]? = some o → Loose.Step Try.prog qops (Vk.at (qtab l al q ad c p Aa ca Aq cq vg) w0.heap.size) w0 a0 Q 14 o := by
 intro o ho
 have ho2 : (some ({ dst := some 65, op := Go.Op.move (Go.Operand.tmp 13), type := 58, pos := "dict.go:158", after := #[], guard := none }) : Option Oper) = some o := ho
 obtain rfl := Option.some.inj ho2
 clear ho2 ho
 intro listed a w hd hI
 refine ⟨Loose.wanted_none rfl _, fun K hK => ?_⟩
 have e1 : a.tmps.getD 13 undef = .pointer (some ⟨p, 0, none⟩) := (hI.others 13 (Loose.no_dst (by kernel_rfl))).trans q13
 refine Loose.value_step (v := .pointer (some ⟨p, 0, none⟩)) (w' := w) ?_ (hK _ _ (Below.refl _ _) rfl)
 unfold execOp
 simp only [Act.eval, e1]
 go_simp
set_option maxRecDepth 100000 in
theorem qstep15 (l al q : List S24) (ad : Addr) (c p : Nat) (Aa : Option Addr) (ca : Nat) (Aq : Option Addr) (cq : Nat) (vg : Value) (w0 : World) (a0 : Act) (Q : Exit → Act → World → Prop) (q0 : a0.tmps.getD 0 undef = .slice (some ad) l.length c) (q13 : a0.tmps.getD 13 undef = .pointer (some ⟨p, 0, none⟩)) (kp : w0.heap[p]? = some (.cells #[.slice Aa al.length ca, .slice Aq q.length cq, vg] 60 (0, 0))) (hC : Kd.C k24 w0 (some ad) l.length l) (hCa : Kd.C k24 w0 Aa al.length al) (hCq : Kd.C k24 w0 Aq q.length q) (hn : 0 < l.length) (hla : al.length ≤ 1500000) (hlq : q.length ≤ 1500000) : ∀ o, qops[15]? = some o → Loose.Step Try.prog qops (Vk.at (qtab l al q ad c p Aa ca Aq cq vg) w0.heap.size) w0 a0 Q 15 o := by
 intro o ho
 have ho2 : (some ({ dst := some 66, op := Go.Op.nilCheck (Go.Operand.tmp 65), type := 0, pos := "dict.go:158", after := #[{ on := 14, ground := Go.Ground.data }], guard := none }) : Option Oper) = some o := ho
 obtain rfl := Option.some.inj ho2
 clear ho2 ho
 intro listed a w hd hI
 have h65 : ((.val (.pointer (some ⟨p, 0, none⟩))) : Vk).ok w0.heap.size (a.tmps.getD 65 undef) w := hI.has 14 _ 65 rfl rfl (hd ⟨14, .data⟩ (by simp) rfl)
 refine ⟨Loose.wanted_none rfl _, fun K hK => ?_⟩
 replace h65 : a.tmps.getD 65 undef = (.pointer (some ⟨p, 0, none⟩)) := h65
 refine Loose.value_step (v := .pointer (some ⟨p, 0, none⟩)) (w' := w) ?_ (hK _ _ (Below.refl _ _) rfl)
 unfold execOp
 simp only [Act.eval, h65]
 go_simp
set_option maxRecDepth 100000 in
theorem qstep16 (l al q : List S24) (ad : Addr) (c p : Nat) (Aa : Option Addr) (ca : Nat) (Aq : Option Addr) (cq : Nat) (vg : Value) (w0 : World) (a0 : Act) (Q : Exit → Act → World → Prop) (q0 : a0.tmps.getD 0 undef = .slice (some ad) l.length c) (q13 : a0.tmps.getD 13 undef = .pointer (some ⟨p, 0, none⟩)) (kp : w0.heap[p]? = some (.cells #[.slice Aa al.length ca, .slice Aq q.length cq, vg] 60 (0, 0))) (hC : Kd.C k24 w0 (some ad) l.length l) (hCa : Kd.C k24 w0 Aa al.length al) (hCq : Kd.C k24 w0 Aq q.length q) (hn : 0 < l.length) (hla : al.length ≤ 1500000) (hlq : q.length ≤ 1500000) : ∀ o, qops[16]? = some o → Loose.Step Try.prog qops (Vk.at (qtab l al q ad c p Aa ca Aq cq vg) w0.heap.size) w0 a0 Q 16 o := by
 intro o ho
 have ho2 : (some ({ dst := some 67, op := Go.Op.fieldAddr 60 (Go.Operand.tmp 66) 1, type := 0, pos := "dict.go:158", after := #[{ on := 15, ground := Go.Ground.data }], guard := none }) : Option Oper) = some o := ho
 obtain rfl := Option.some.inj ho2
 clear ho2 ho
 intro listed a w hd hI
 have h66 : ((.val (.pointer (some ⟨p, 0, none⟩))) : Vk).ok w0.heap.size (a.tmps.getD 66 undef) w := hI.has 15 _ 66 rfl rfl (hd ⟨15, .data⟩ (by simp) rfl)
 refine ⟨Loose.wanted_none rfl _, fun K hK => ?_⟩
 replace h66 : a.tmps.getD 66 undef = (.pointer (some ⟨p, 0, none⟩)) := h66
 refine Loose.value_step (v := .pointer (some ⟨p, 1, none⟩)) (w' := w) ?_ (hK _ _ (Below.refl _ _) rfl)
 unfold execOp
 simp only [Act.eval, h66]
 go_simp
set_option maxRecDepth 100000 in
theorem qstep17 (l al q : List S24) (ad : Addr) (c p : Nat) (Aa : Option Addr) (ca : Nat) (Aq : Option Addr) (cq : Nat) (vg : Value) (w0 : World) (a0 : Act) (Q : Exit → Act → World → Prop) (q0 : a0.tmps.getD 0 undef = .slice (some ad) l.length c) (q13 : a0.tmps.getD 13 undef = .pointer (some ⟨p, 0, none⟩)) (kp : w0.heap[p]? = some (.cells #[.slice Aa al.length ca, .slice Aq q.length cq, vg] 60 (0, 0))) (hC : Kd.C k24 w0 (some ad) l.length l) (hCa : Kd.C k24 w0 Aa al.length al) (hCq : Kd.C k24 w0 Aq q.length q) (hn : 0 < l.length) (hla : al.length ≤ 1500000) (hlq : q.length ≤ 1500000) : ∀ o, qops[17]? = some o → Loose.Step Try.prog qops (Vk.at (qtab l al q ad c p Aa ca Aq cq vg) w0.heap.size) w0 a0 Q 17 o := by
 intro o ho
 have ho2 : (some ({ dst := some 68, op := Go.Op.load 22 (Go.Operand.tmp 67), type := 22, pos := "dict.go:158", after := #[{ on := 16, ground := Go.Ground.data }], guard := none }) : Option Oper) = some o := ho
 obtain rfl := Option.some.inj ho2
 clear ho2 ho
 intro listed a w hd hI
 have h67 : ((.val (.pointer (some ⟨p, 1, none⟩))) : Vk).ok w0.heap.size (a.tmps.getD 67 undef) w := hI.has 16 _ 67 rfl rfl (hd ⟨16, .data⟩ (by simp) rfl)
 refine ⟨Loose.wanted_none rfl _, fun K hK => ?_⟩
 replace h67 : a.tmps.getD 67 undef = (.pointer (some ⟨p, 1, none⟩)) := h67
 have hk := (hI.below.block p (blk_lt kp)).trans kp
 have hc0 : w.cell? ⟨p, 1, none⟩ = some (.slice Aq q.length cq) := (blk_cell hk 1).trans rfl
 refine Loose.value_step (v := .slice Aq q.length cq) (w' := w) ?_ (hK _ _ (Below.refl _ _) rfl)
 unfold execOp
 simp only [Act.eval, h67]
 go_simp
set_option maxRecDepth 100000 in
theorem qstep18 (l al q : List S24) (ad : Addr) (c p : Nat) (Aa : Option Addr) (ca : Nat) (Aq : Option Addr) (cq : Nat) (vg : Value) (w0 : World) (a0 : Act) (Q : Exit → Act → World → Prop) (q0 : a0.tmps.getD 0 undef = .slice (some ad) l.length c) (q13 : a0.tmps.getD 13 undef = .pointer (some ⟨p, 0, none⟩)) (kp : w0.heap[p]? = some (.cells #[.slice Aa al.length ca, .slice Aq q.length cq, vg] 60 (0, 0))) (hC : Kd.C k24 w0 (some ad) l.length l) (hCa : Kd.C k24 w0 Aa al.length al) (hCq : Kd.C k24 w0 Aq q.length q) (hn : 0 < l.length) (hla : al.length ≤ 1500000) (hlq : q.length ≤ 1500000) : ∀ o, qops[18]? = some o → Loose.Step Try.prog qops (Vk.at (qtab l al q ad c p Aa ca Aq cq vg) w0.heap.size) w0 a0 Q 18 o := by
 intro o ho
 have ho2 : (some ({ dst := some 69, op := Go.Op.buildSlice 76 3 #[(0, Go.Operand.tmp 60), (1, Go.Operand.tmp 64), (2, Go.Operand.tmp 68)], type := 76, pos := "dict.go:158", after := #[{ on := 9, ground := Go.Ground.data }, { on := 13, ground := Go.Ground.data }, { on := 17, ground := Go.Ground.data }], guard := none }) : Option Oper) = some o := ho
 obtain rfl := Option.some.inj ho2
 clear ho2 ho
 intro listed a w hd hI
 have h60 : ((.row2 [rd_T24 l 0, ⟨3, (al.length : Int)⟩]) : Vk).ok w0.heap.size (a.tmps.getD 60 undef) w := hI.has 9 _ 60 rfl rfl (hd ⟨9, .data⟩ (by simp) rfl)
 have h64 : ((.val (.slice Aa al.length ca)) : Vk).ok w0.heap.size (a.tmps.getD 64 undef) w := hI.has 13 _ 64 rfl rfl (hd ⟨13, .data⟩ (by simp) rfl)
 have h68 : ((.val (.slice Aq q.length cq)) : Vk).ok w0.heap.size (a.tmps.getD 68 undef) w := hI.has 17 _ 68 rfl rfl (hd ⟨17, .data⟩ (by simp) rfl)
 refine ⟨Loose.wanted_none rfl _, fun K hK => ?_⟩
 replace h64 : a.tmps.getD 64 undef = (.slice Aa al.length ca) := h64
 replace h68 : a.tmps.getD 68 undef = (.slice Aq q.length cq) := h68
 obtain ⟨B0, e60, hB0⟩ := h60
 replace e60 : a.tmps.getD 60 undef = .slice (some ⟨B0, 0, none⟩) 2 2 := e60
 refine Loose.value_step (v := .slice (some ⟨w.heap.size, 0, none⟩) 3 3) (w' := w.alloc (.cells #[.slice (some ⟨B0, 0, none⟩) 2 2, .slice Aa al.length ca, .slice Aq q.length cq] 22)) ?_ (hK _ _ (below_alloc (Below.refl _ _) _) ⟨w.heap.size, B0, rfl, blk_new _ _, blk_alloc hB0 _⟩)
 unfold execOp
 simp only [Act.eval, List.map_toArray, List.map_cons, List.map_nil, e60, h64, h68]
 go_simp
set_option maxRecDepth 100000 in
theorem qstep19 (l al q : List S24) (ad : Addr) (c p : Nat) (Aa : Option Addr) (ca : Nat) (Aq : Option Addr) (cq : Nat) (vg : Value) (w0 : World) (a0 : Act) (Q : Exit → Act → World → Prop) (q0 : a0.tmps.getD 0 undef = .slice (some ad) l.length c) (q13 : a0.tmps.getD 13 undef = .pointer (some ⟨p, 0, none⟩)) (kp : w0.heap[p]? = some (.cells #[.slice Aa al.length ca, .slice Aq q.length cq, vg] 60 (0, 0))) (hC : Kd.C k24 w0 (some ad) l.length l) (hCa : Kd.C k24 w0 Aa al.length al) (hCq : Kd.C k24 w0 Aq q.length q) (hn : 0 < l.length) (hla : al.length ≤ 1500000) (hlq : q.length ≤ 1500000) : ∀ o, qops[19]? = some o → Loose.Step Try.prog qops (Vk.at (qtab l al q ad c p Aa ca Aq cq vg) w0.heap.size) w0 a0 Q 19 o := by
 intro o ho
 have ho2 : (some ({ dst := some 70, op := Go.Op.call { callee := Go.Callee.value (Go.Operand.func 35), args := #[Go.Operand.tmp 69], argTypes := #[76] }, type := 22, pos := "dict.go:158", after := #[{ on := 18, ground := Go.Ground.data }, { on := 8, ground := Go.Ground.chain }], guard := none }) : Option Oper) = some o := ho
 obtain rfl := Option.some.inj ho2
 clear ho2 ho
 intro listed a w hd hI
 have h69 : ((.rows3 [rd_T24 l 0, ⟨3, (al.length : Int)⟩] (.slice Aa al.length ca) (.slice Aq q.length cq)) : Vk).ok w0.heap.size (a.tmps.getD 69 undef) w := hI.has 18 _ 69 rfl rfl (hd ⟨18, .data⟩ (by simp) rfl)
 refine ⟨Loose.wanted_none rfl _, fun K hK => ?_⟩
 obtain ⟨b, B0, e69, hb, hB0⟩ := h69
 replace e69 : a.tmps.getD 69 undef = .slice (some ⟨b, 0, none⟩) 3 3 := e69
 have hC0 := (Kd.R_reads' (R24_lit (base := 0) (ok := fun _ => True) [rd_T24 l 0, ⟨3, (al.length : Int)⟩] hB0 (Nat.zero_le _) trivial (by simp [maxLen]))).2.2
 refine Loose.call_step Try.func35 (by kernel_rfl) rfl #[.slice (some ⟨b, 0, none⟩) 3 3] rfl (by simp [Act.eval, e69]) ((concat_any b _ _ _ _ _ _ [rd_T24 l 0, ⟨3, (al.length : Int)⟩] al q w hb hC0 (Kd.C_below hCa hI.below) (Kd.C_below hCq hI.below) (by simp) (by simp) hla hlq).mono ?_)
 rintro e w' ⟨v, rfl, hv, hbl⟩
 exact ⟨_, rfl, hK _ w' hbl (R24_low hv hI.below.size)⟩
set_option maxRecDepth 100000 in
theorem qstep20 (l al q : List S24) (ad : Addr) (c p : Nat) (Aa : Option Addr) (ca : Nat) (Aq : Option Addr) (cq : Nat) (vg : Value) (w0 : World) (a0 : Act) (Q : Exit → Act → World → Prop) (q0 : a0.tmps.getD 0 undef = .slice (some ad) l.length c) (q13 : a0.tmps.getD 13 undef = .pointer (some ⟨p, 0, none⟩)) (kp : w0.heap[p]? = some (.cells #[.slice Aa al.length ca, .slice Aq q.length cq, vg] 60 (0, 0))) (hC : Kd.C k24 w0 (some ad) l.length l) (hCa : Kd.C k24 w0 Aa al.length al) (hCq : Kd.C k24 w0 Aq q.length q) (hn : 0 < l.length) (hla : al.length ≤ 1500000) (hlq : q.length ≤ 1500000) : ∀ o, qops[20]? = some o → Loose.Step Try.prog qops (Vk.at (qtab l al q ad c p Aa ca Aq cq vg) w0.heap.size) w0 a0 Q 20 o := by
 intro o ho
 have ho2 : (some ({ dst := some 71, op := Go.Op.move (Go.Operand.tmp 13), type := 58, pos := "dict.go:158", after := #[{ on := 24, ground := Go.Ground.gcOnly Go.Departure.lateStores }], guard := none }) : Option Oper) = some o := ho
 obtain rfl := Option.some.inj ho2
 clear ho2 ho
 intro listed a w hd hI
 refine ⟨Loose.wanted_none rfl _, fun K hK => ?_⟩
 have e1 : a.tmps.getD 13 undef = .pointer (some ⟨p, 0, none⟩) := (hI.others 13 (Loose.no_dst (by kernel_rfl))).trans q13
 refine Loose.value_step (v := .pointer (some ⟨p, 0, none⟩)) (w' := w) ?_ (hK _ _ (Below.refl _ _) rfl)
 unfold execOp
 simp only [Act.eval, e1]
 go_simp
set_option maxRecDepth 100000 in
theorem qstep21 (l al q : List S24) (ad : Addr) (c p : Nat) (Aa : Option Addr) (ca : Nat) (Aq : Option Addr) (cq : Nat) (vg : Value) (w0 : World) (a0 : Act) (Q : Exit → Act → World → Prop) (q0 : a0.tmps.getD 0 undef = .slice (some ad) l.length c) (q13 : a0.tmps.getD 13 undef = .pointer (some ⟨p, 0, none⟩)) (kp : w0.heap[p]? = some (.cells #[.slice Aa al.length ca, .slice Aq q.length cq, vg] 60 (0, 0))) (hC : Kd.C k24 w0 (some ad) l.length l) (hCa : Kd.C k24 w0 Aa al.length al) (hCq : Kd.C k24 w0 Aq q.length q) (hn : 0 < l.length) (hla : al.length ≤ 1500000) (hlq : q.length ≤ 1500000) : ∀ o, qops[21]? = some o → Loose.Step Try.prog qops (Vk.at (qtab l al q ad c p Aa ca Aq cq vg) w0.heap.size) w0 a0 Q 21 o := by
 intro o ho
 have ho2 : (some ({ dst := some 72, op := Go.Op.nilCheck (Go.Operand.tmp 71), type := 0, pos := "dict.go:158", after := #[{ on := 20, ground := Go.Ground.data }, { on := 24, ground := Go.Ground.gcOnly Go.Departure.lateStores }], guard := none }) : Option Oper) = some o := ho
 obtain rfl := Option.some.inj ho2
 clear ho2 ho
 intro listed a w hd hI
 have h71 : ((.val (.pointer (some ⟨p, 0, none⟩))) : Vk).ok w0.heap.size (a.tmps.getD 71 undef) w := hI.has 20 _ 71 rfl rfl (hd ⟨20, .data⟩ (by simp) rfl)
 refine ⟨Loose.wanted_none rfl _, fun K hK => ?_⟩
 replace h71 : a.tmps.getD 71 undef = (.pointer (some ⟨p, 0, none⟩)) := h71
 refine Loose.value_step (v := .pointer (some ⟨p, 0, none⟩)) (w' := w) ?_ (hK _ _ (Below.refl _ _) rfl)
 unfold execOp
 simp only [Act.eval, h71]
 go_simp
set_option maxRecDepth 100000 in
theorem qstep22 (l al q : List S24) (ad : Addr) (c p : Nat) (Aa : Option Addr) (ca : Nat) (Aq : Option Addr) (cq : Nat) (vg : Value) (w0 : World) (a0 : Act) (Q : Exit → Act → World → Prop) (q0 : a0.tmps.getD 0 undef = .slice (some ad) l.length c) (q13 : a0.tmps.getD 13 undef = .pointer (some ⟨p, 0, none⟩)) (kp : w0.heap[p]? = some (.cells #[.slice Aa al.length ca, .slice Aq q.length cq, vg] 60 (0, 0))) (hC : Kd.C k24 w0 (some ad) l.length l) (hCa : Kd.C k24 w0 Aa al.length al) (hCq : Kd.C k24 w0 Aq q.length q) (hn : 0 < l.length) (hla : al.length ≤ 1500000) (hlq : q.length ≤ 1500000) : ∀ o, qops[22]? = some o → Loose.Step Try.prog qops (Vk.at (qtab l al q ad c p Aa ca Aq cq vg) w0.heap.size) w0 a0 Q 22 o := by
 intro o ho
 have ho2 : (some ({ dst := some 73, op := Go.Op.fieldAddr 60 (Go.Operand.tmp 72) 2, type := 0, pos := "dict.go:158", after := #[{ on := 21, ground := Go.Ground.data }, { on := 24, ground := Go.Ground.gcOnly Go.Departure.lateStores }], guard := none }) : Option Oper) = some o := ho
 obtain rfl := Option.some.inj ho2
 clear ho2 ho
 intro listed a w hd hI
 have h72 : ((.val (.pointer (some ⟨p, 0, none⟩))) : Vk).ok w0.heap.size (a.tmps.getD 72 undef) w := hI.has 21 _ 72 rfl rfl (hd ⟨21, .data⟩ (by simp) rfl)
 refine ⟨Loose.wanted_none rfl _, fun K hK => ?_⟩
 replace h72 : a.tmps.getD 72 undef = (.pointer (some ⟨p, 0, none⟩)) := h72
 refine Loose.value_step (v := .pointer (some ⟨p, 2, none⟩)) (w' := w) ?_ (hK _ _ (Below.refl _ _) rfl)
 unfold execOp
 simp only [Act.eval, h72]
 go_simp
set_option maxRecDepth 100000 in
theorem qstep23 (l al q : List S24) (ad : Addr) (c p : Nat) (Aa : Option Addr) (ca : Nat) (Aq : Option Addr) (cq : Nat) (vg : Value) (w0 : World) (a0 : Act) (Q : Exit → Act → World → Prop) (q0 : a0.tmps.getD 0 undef = .slice (some ad) l.length c) (q13 : a0.tmps.getD 13 undef = .pointer (some ⟨p, 0, none⟩)) (kp : w0.heap[p]? = some (.cells #[.slice Aa al.length ca, .slice Aq q.length cq, vg] 60 (0, 0))) (hC : Kd.C k24 w0 (some ad) l.length l) (hCa : Kd.C k24 w0 Aa al.length al) (hCq : Kd.C k24 w0 Aq q.length q) (hn : 0 < l.length) (hla : al.length ≤ 1500000) (hlq : q.length ≤ 1500000) : ∀ o, qops[23]? = some o → Loose.Step Try.prog qops (Vk.at (qtab l al q ad c p Aa ca Aq cq vg) w0.heap.size) w0 a0 Q 23 o := by
 intro o ho
 have ho2 : (some ({ dst := some 74, op := Go.Op.load 22 (Go.Operand.tmp 73), type := 22, pos := "dict.go:158", after := #[{ on := 22, ground := Go.Ground.data }, { on := 24, ground := Go.Ground.gcOnly Go.Departure.lateStores }], guard := none }) : Option Oper) = some o := ho
 obtain rfl := Option.some.inj ho2
 clear ho2 ho
 intro listed a w hd hI
 have h73 : ((.val (.pointer (some ⟨p, 2, none⟩))) : Vk).ok w0.heap.size (a.tmps.getD 73 undef) w := hI.has 22 _ 73 rfl rfl (hd ⟨22, .data⟩ (by simp) rfl)
 refine ⟨Loose.wanted_none rfl _, fun K hK => ?_⟩
 replace h73 : a.tmps.getD 73 undef = (.pointer (some ⟨p, 2, none⟩)) := h73
 have hk := (hI.below.block p (blk_lt kp)).trans kp
 have hc0 : w.cell? ⟨p, 2, none⟩ = some (vg) := (blk_cell hk 2).trans rfl
 refine Loose.value_step (v := vg) (w' := w) ?_ (hK _ _ (Below.refl _ _) rfl)
 unfold execOp
 simp only [Act.eval, h73]
 go_simp
set_option maxRecDepth 100000 in
theorem qstep24 (l al q : List S24) (ad : Addr) (c p : Nat) (Aa : Option Addr) (ca : Nat) (Aq : Option Addr) (cq : Nat) (vg : Value) (w0 : World) (a0 : Act) (Q : Exit → Act → World → Prop) (q0 : a0.tmps.getD 0 undef = .slice (some ad) l.length c) (q13 : a0.tmps.getD 13 undef = .pointer (some ⟨p, 0, none⟩)) (kp : w0.heap[p]? = some (.cells #[.slice Aa al.length ca, .slice Aq q.length cq, vg] 60 (0, 0))) (hC : Kd.C k24 w0 (some ad) l.length l) (hCa : Kd.C k24 w0 Aa al.length al) (hCq : Kd.C k24 w0 Aq q.length q) (hn : 0 < l.length) (hla : al.length ≤ 1500000) (hlq : q.length ≤ 1500000) : ∀ o, qops[24]? = some o → Loose.Step Try.prog qops (Vk.at (qtab l al q ad c p Aa ca Aq cq vg) w0.heap.size) w0 a0 Q 24 o := by
 intro o ho
 have ho2 : (some ({ dst := some 6, op := Go.Op.assign (Go.Operand.tmp 70), type := 22, pos := "dict.go:158", after := #[{ on := 19, ground := Go.Ground.data }, { on := 19, ground := Go.Ground.chain }, { on := 0, ground := Go.Ground.phase }, { on := 1, ground := Go.Ground.phase }, { on := 2, ground := Go.Ground.phase }, { on := 3, ground := Go.Ground.phase }, { on := 4, ground := Go.Ground.phase }, { on := 5, ground := Go.Ground.phase }, { on := 6, ground := Go.Ground.phase }, { on := 7, ground := Go.Ground.phase }, { on := 8, ground := Go.Ground.phase }, { on := 9, ground := Go.Ground.phase }, { on := 10, ground := Go.Ground.phase }, { on := 11, ground := Go.Ground.phase }, { on := 12, ground := Go.Ground.phase }, { on := 13, ground := Go.Ground.phase }, { on := 14, ground := Go.Ground.phase }, { on := 15, ground := Go.Ground.phase }, { on := 16, ground := Go.Ground.phase }, { on := 17, ground := Go.Ground.phase }, { on := 18, ground := Go.Ground.phase }, { on := 19, ground := Go.Ground.phase }, { on := 20, ground := Go.Ground.textOnly Go.Departure.lateStores }, { on := 21, ground := Go.Ground.textOnly Go.Departure.lateStores }, { on := 22, ground := Go.Ground.textOnly Go.Departure.lateStores }, { on := 23, ground := Go.Ground.textOnly Go.Departure.lateStores }], guard := none }) : Option Oper) = some o := ho
 obtain rfl := Option.some.inj ho2
 clear ho2 ho
 intro listed a w hd hI
 have h70 : ((.res ([rd_T24 l 0, ⟨3, (al.length : Int)⟩] ++ al ++ q)) : Vk).ok w0.heap.size (a.tmps.getD 70 undef) w := hI.has 19 _ 70 rfl rfl (hd ⟨19, .data⟩ (by simp) rfl)
 refine ⟨Loose.wanted_none rfl _, fun K hK => ?_⟩
 refine Loose.value_step (v := a.tmps.getD 70 undef) (w' := w) ?_ (hK _ _ (Below.refl _ _) h70)
 unfold execOp
 simp [go_sem, Act.eval]
set_option maxRecDepth 100000 in
theorem qstep25 (l al q : List S24) (ad : Addr) (c p : Nat) (Aa : Option Addr) (ca : Nat) (Aq : Option Addr) (cq : Nat) (vg : Value) (w0 : World) (a0 : Act) (Q : Exit → Act → World → Prop) (q0 : a0.tmps.getD 0 undef = .slice (some ad) l.length c) (q13 : a0.tmps.getD 13 undef = .pointer (some ⟨p, 0, none⟩)) (kp : w0.heap[p]? = some (.cells #[.slice Aa al.length ca, .slice Aq q.length cq, vg] 60 (0, 0))) (hC : Kd.C k24 w0 (some ad) l.length l) (hCa : Kd.C k24 w0 Aa al.length al) (hCq : Kd.C k24 w0 Aq q.length q) (hn : 0 < l.length) (hla : al.length ≤ 1500000) (hlq : q.length ≤ 1500000) : ∀ o, qops[25]? = some o → Loose.Step Try.prog qops (Vk.at (qtab l al q ad c p Aa ca Aq cq vg) w0.heap.size) w0 a0 Q 25 o := by
 intro o ho
 have ho2 : (some ({ dst := some 7, op := Go.Op.assign (Go.Operand.tmp 74), type := 22, pos := "dict.go:158", after := #[{ on := 23, ground := Go.Ground.data }, { on := 24, ground := Go.Ground.chain }, { on := 0, ground := Go.Ground.phase }, { on := 1, ground := Go.Ground.phase }, { on := 2, ground := Go.Ground.phase }, { on := 3, ground := Go.Ground.phase }, { on := 4, ground := Go.Ground.phase }, { on := 5, ground := Go.Ground.phase }, { on := 6, ground := Go.Ground.phase }, { on := 7, ground := Go.Ground.phase }, { on := 8, ground := Go.Ground.phase }, { on := 9, ground := Go.Ground.phase }, { on := 10, ground := Go.Ground.phase }, { on := 11, ground := Go.Ground.phase }, { on := 12, ground := Go.Ground.phase }, { on := 13, ground := Go.Ground.phase }, { on := 14, ground := Go.Ground.phase }, { on := 15, ground := Go.Ground.phase }, { on := 16, ground := Go.Ground.phase }, { on := 17, ground := Go.Ground.phase }, { on := 18, ground := Go.Ground.phase }, { on := 19, ground := Go.Ground.phase }, { on := 20, ground := Go.Ground.phase }, { on := 21, ground := Go.Ground.phase }, { on := 22, ground := Go.Ground.phase }, { on := 23, ground := Go.Ground.phase }, { on := 24, ground := Go.Ground.phase }], guard := none }) : Option Oper) = some o := ho
 obtain rfl := Option.some.inj ho2
 clear ho2 ho
 intro listed a w hd hI
 have h74 : ((.val (vg)) : Vk).ok w0.heap.size (a.tmps.getD 74 undef) w := hI.has 23 _ 74 rfl rfl (hd ⟨23, .data⟩ (by simp) rfl)
 refine ⟨Loose.wanted_none rfl _, fun K hK => ?_⟩
 replace h74 : a.tmps.getD 74 undef = (vg) := h74
 refine Loose.value_step (v := vg) (w' := w) ?_ (hK _ _ (Below.refl _ _) rfl)
 unfold execOp
 simp only [Act.eval, h74]
 go_simp
set_option maxRecDepth 100000 in
theorem qstep26 (l al q : List S24) (ad : Addr) (c p : Nat) (Aa : Option Addr) (ca : Nat) (Aq : Option Addr) (cq : Nat) (vg : Value) (w0 : World) (a0 : Act) (Q : Exit → Act → World → Prop) (q0 : a0.tmps.getD 0 undef = .slice (some ad) l.length c) (q13 : a0.tmps.getD 13 undef = .pointer (some ⟨p, 0, none⟩)) (kp : w0.heap[p]? = some (.cells #[.slice Aa al.length ca, .slice Aq q.length cq, vg] 60 (0, 0))) (hC : Kd.C k24 w0 (some ad) l.length l) (hCa : Kd.C k24 w0 Aa al.length al) (hCq : Kd.C k24 w0 Aq q.length q) (hn : 0 < l.length) (hla : al.length ≤ 1500000) (hlq : q.length ≤ 1500000) : ∀ o, qops[26]? = some o → Loose.Step Try.prog qops (Vk.at (qtab l al q ad c p Aa ca Aq cq vg) w0.heap.size) w0 a0 Q 26 o := by
 intro o ho
 have ho2 : (some ({ dst := some 8, op := Go.Op.assign (Go.Operand.const (Go.Value.int Go.IntKind.i64 0)), type := 26, pos := "dict.go:158", after := #[{ on := 25, ground := Go.Ground.chain }, { on := 0, ground := Go.Ground.phase }, { on := 1, ground := Go.Ground.phase }, { on := 2, ground := Go.Ground.phase }, { on := 3, ground := Go.Ground.phase }, { on := 4, ground := Go.Ground.phase }, { on := 5, ground := Go.Ground.phase }, { on := 6, ground := Go.Ground.phase }, { on := 7, ground := Go.Ground.phase }, { on := 8, ground := Go.Ground.phase }, { on := 9, ground := Go.Ground.phase }, { on := 10, ground := Go.Ground.phase }, { on := 11, ground := Go.Ground.phase }, { on := 12, ground := Go.Ground.phase }, { on := 13, ground := Go.Ground.phase }, { on := 14, ground := Go.Ground.phase }, { on := 15, ground := Go.Ground.phase }, { on := 16, ground := Go.Ground.phase }, { on := 17, ground := Go.Ground.phase }, { on := 18, ground := Go.Ground.phase }, { on := 19, ground := Go.Ground.phase }, { on := 20, ground := Go.Ground.phase }, { on := 21, ground := Go.Ground.phase }, { on := 22, ground := Go.Ground.phase }, { on := 23, ground := Go.Ground.phase }, { on := 24, ground := Go.Ground.phase }, { on := 25, ground := Go.Ground.phase }], guard := none }) : Option Oper) = some o := ho
 obtain rfl := Option.some.inj ho2
 clear ho2 ho
 intro listed a w hd hI
 refine ⟨Loose.wanted_none rfl _, fun K hK => ?_⟩
 refine Loose.value_step (v := .int .i64 0) (w' := w) ?_ (hK _ _ (Below.refl _ _) rfl)
 unfold execOp
 simp only [Act.eval]
 go_simp
theorem qsteps (l al q : List S24) (ad : Addr) (c p : Nat) (Aa : Option Addr) (ca : Nat) (Aq : Option Addr) (cq : Nat) (vg : Value) (w0 : World) (a0 : Act) (Q : Exit → Act → World → Prop) (q0 : a0.tmps.getD 0 undef = .slice (some ad) l.length c) (q13 : a0.tmps.getD 13 undef = .pointer (some ⟨p, 0, none⟩)) (kp : w0.heap[p]? = some (.cells #[.slice Aa al.length ca, .slice Aq q.length cq, vg] 60 (0, 0))) (hC : Kd.C k24 w0 (some ad) l.length l) (hCa : Kd.C k24 w0 Aa al.length al) (hCq : Kd.C k24 w0 Aq q.length q) (hn : 0 < l.length) (hla : al.length ≤ 1500000) (hlq : q.length ≤ 1500000) : ∀ (i : Nat) (o : Oper), qops[i]? = some o → Loose.Step Try.prog qops (Vk.at (qtab l al q ad c p Aa ca Aq cq vg) w0.heap.size) w0 a0 Q i o := by
 intro i o ho
 rcases (by omega : i = 0 ∨ i = 1 ∨ i = 2 ∨ i = 3 ∨ i = 4 ∨ i = 5 ∨ i = 6 ∨ i = 7 ∨ i = 8 ∨ i = 9 ∨ i = 10 ∨ i = 11 ∨ i = 12 ∨ i = 13 ∨ i = 14 ∨ i = 15 ∨ i = 16 ∨ i = 17 ∨ i = 18 ∨ i = 19 ∨ i = 20 ∨ i = 21 ∨ i = 22 ∨ i = 23 ∨ i = 24 ∨ i = 25 ∨ i = 26 ∨ 27 ≤ i) with rfl | rfl | rfl | rfl | rfl | rfl | rfl | rfl | rfl | rfl | rfl | rfl | rfl | rfl | rfl | rfl | rfl | rfl | rfl | rfl | rfl | rfl | rfl | rfl | rfl | rfl | rfl | h
 ·exact qstep0 l al q ad c p Aa ca Aq cq vg w0 a0 Q q0 q13 kp hC hCa hCq hn hla hlq o ho
 ·exact qstep1 l al q ad c p Aa ca Aq cq vg w0 a0 Q q0 q13 kp hC hCa hCq hn hla hlq o ho
 ·exact qstep2 l al q ad c p Aa ca Aq cq vg w0 a0 Q q0 q13 kp hC hCa hCq hn hla hlq o ho
 ·exact qstep3 l al q ad c p Aa ca Aq cq vg w0 a0 Q q0 q13 kp hC hCa hCq hn hla hlq o ho
 ·exact qstep4 l al q ad c p Aa ca Aq cq vg w0 a0 Q q0 q13 kp hC hCa hCq hn hla hlq o ho
 ·exact qstep5 l al q ad c p Aa ca Aq cq vg w0 a0 Q q0 q13 kp hC hCa hCq hn hla hlq o ho
 ·exact qstep6 l al q ad c p Aa ca Aq cq vg w0 a0 Q q0 q13 kp hC hCa hCq hn hla hlq o ho
 ·exact qstep7 l al q ad c p Aa ca Aq cq vg w0 a0 Q q0 q13 kp hC hCa hCq hn hla hlq o ho
 ·exact qstep8 l al q ad c p Aa ca Aq cq vg w0 a0 Q q0 q13 kp hC hCa hCq hn hla hlq o ho
 ·exact qstep9 l al q ad c p Aa ca Aq cq vg w0 a0 Q q0 q13 kp hC hCa hCq hn hla hlq o ho
 ·exact qstep10 l al q ad c p Aa ca Aq cq vg w0 a0 Q q0 q13 kp hC hCa hCq hn hla hlq o ho
 ·exact qstep11 l al q ad c p Aa ca Aq cq vg w0 a0 Q q0 q13 kp hC hCa hCq hn hla hlq o ho
 ·exact qstep12 l al q ad c p Aa ca Aq cq vg w0 a0 Q q0 q13 kp hC hCa hCq hn hla hlq o ho
 ·exact qstep13 l al q ad c p Aa ca Aq cq vg w0 a0 Q q0 q13 kp hC hCa hCq hn hla hlq o ho
 ·exact qstep14 l al q ad c p Aa ca Aq cq vg w0 a0 Q q0 q13 kp hC hCa hCq hn hla hlq o ho
 ·exact qstep15 l al q ad c p Aa ca Aq cq vg w0 a0 Q q0 q13 kp hC hCa hCq hn hla hlq o ho
 ·exact qstep16 l al q ad c p Aa ca Aq cq vg w0 a0 Q q0 q13 kp hC hCa hCq hn hla hlq o ho
 ·exact qstep17 l al q ad c p Aa ca Aq cq vg w0 a0 Q q0 q13 kp hC hCa hCq hn hla hlq o ho
 ·exact qstep18 l al q ad c p Aa ca Aq cq vg w0 a0 Q q0 q13 kp hC hCa hCq hn hla hlq o ho
 ·exact qstep19 l al q ad c p Aa ca Aq cq vg w0 a0 Q q0 q13 kp hC hCa hCq hn hla hlq o ho
 ·exact qstep20 l al q ad c p Aa ca Aq cq vg w0 a0 Q q0 q13 kp hC hCa hCq hn hla hlq o ho
 ·exact qstep21 l al q ad c p Aa ca Aq cq vg w0 a0 Q q0 q13 kp hC hCa hCq hn hla hlq o ho
 ·exact qstep22 l al q ad c p Aa ca Aq cq vg w0 a0 Q q0 q13 kp hC hCa hCq hn hla hlq o ho
 ·exact qstep23 l al q ad c p Aa ca Aq cq vg w0 a0 Q q0 q13 kp hC hCa hCq hn hla hlq o ho
 ·exact qstep24 l al q ad c p Aa ca Aq cq vg w0 a0 Q q0 q13 kp hC hCa hCq hn hla hlq o ho
 ·exact qstep25 l al q ad c p Aa ca Aq cq vg w0 a0 Q q0 q13 kp hC hCa hCq hn hla hlq o ho
 ·exact qstep26 l al q ad c p Aa ca Aq cq vg w0 a0 Q q0 q13 kp hC hCa hCq hn hla hlq o ho
 ·have : qops.size ≤ i := Nat.le_trans (Nat.le_of_eq (by kernel_rfl)) h
  rw [Array.getElem?_eq_none this] at ho; cases ho
end Go.Proofs.YtadhkfklkbdabaaR.G
end
