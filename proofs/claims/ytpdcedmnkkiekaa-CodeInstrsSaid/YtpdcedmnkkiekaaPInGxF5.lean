import Derived.Test.YtpdcedmnkkiekaaPInGxF19
import Derived.Test.YtpdcedmnkkiekaaPInGxF15
import Derived.Test.YtpdcedmnkkiekaaPInGxF16
import Derived.Test.YtpdcedmnkkiekaaPInGxF14
import Derived.Lib.Hide
set_option linter.unusedVariables false
set_option linter.unusedSimpArgs false
section
namespace Go.Proofs.Ytpdcedmnkkiekaa.G
open Go.RowKit Go.Proofs.YtpdcedmnkkiekaaW.PrintWords Go.Proofs.YtpdcedmnkkiekaaW.PrintLast Go.Proofs.YtpdcedmnkkiekaaW.PrintMore
set_option linter.unusedVariables false
set_option linter.unusedSimpArgs false
theorem u8_ok {n : Int} (h : (Lit.int .u8 n).wf = true) : 0 ≤ n ∧ n < 256 := by
  simp only [Lit.wf, Bool.and_eq_true, decide_eq_true_eq] at h
  have e0 : IntKind.u8.min = 0 := rfl
  have e1 : IntKind.u8.max = 255 := rfl
  rw [e0, e1] at h
  omega
noncomputable def vops : Array Oper := opsOf Try.f5 2
def vtab (g k c : Nat) (A : Option Addr) (PL : List S41) (rc : Int) : List Vk := [(.val (.agg #[.slice A PL.length c])), (.val (.int .i64 rc)), (.val (.agg #[.slice A PL.length c])), (.val (.int .i64 rc)), (.val (.bool true)), (.val (.bool true)), (.val (.bool true)), (.val (.bool true)), (.val (.bool true))]
theorem vdsts : ∀ (i j : Nat) (oi oj : Oper) (d : Nat), vops[i]? = some oi → vops[j]? = some oj → oi.dst = some d → oj.dst = some d → i = j := Loose.dsts_of (l := [some 9, some 10, some 11, some 12, some 13, some 14, some 15, some 16, some 4]) (by kernel_rfl) (by decide)
theorem vdeps : ∀ (i : Nat) (o : Oper), vops[i]? = some o → ∀ e ∈ o.after, e.on < i := Loose.deps_of (by kernel_rfl)
set_option maxRecDepth 100000 in
theorem vstep0 (g k c : Nat) (A : Option Addr) (PL : List S41) (rc : Int) (w0 : World) (a0 : Act) (Q : Exit → Act → World → Prop) (q1 : a0.tmps.getD 5 undef = .pointer (some ⟨g, 0, none⟩)) (k1 : w0.heap[g]? = some (.cells #[.slice A PL.length c] 28 (0, 0))) (hC : Kd.C k41 w0 A PL.length PL) (hl : PL.length ≤ c) (hc : code_Check.f k PL = some rc) (hr : tallowref20_Check.f k PL = some rc) : ∀ o, vops[0]? = some o → Loose.Step Try.prog vops (Vk.at (vtab g k c A PL rc) w0.heap.size) w0 a0 Q 0 o := by
  intro o ho
  have ho2 : (some ({ dst := some 9, op := Go.Op.load 28 (Go.Operand.tmp 5), type := 28, pos := "law.go:24", after := #[], guard := none }) : Option Oper) = some o := ho
  obtain rfl := Option.some.inj ho2
  clear ho2 ho
  intro listed a w hd hI
  refine ⟨Loose.wanted_none rfl _, fun K hK => ?_⟩
  have e1 : a.tmps.getD 5 undef = .pointer (some ⟨g, 0, none⟩) := (hI.others 5 (Loose.no_dst (by kernel_rfl))).trans q1
  have hk := (hI.below.block g (blk_lt k1)).trans k1
  have hc0 : w.cell? ⟨g, 0, none⟩ = some (.slice A PL.length c) := (blk_cell hk 0).trans rfl
  refine Loose.value_step (v := .agg #[.slice A PL.length c]) (w' := w) ?_ (hK _ _ (Below.refl _ _) rfl)
  unfold execOp
  simp only [Act.eval, e1]
  go_simp
set_option maxRecDepth 100000 in
theorem vstep1 (g k c : Nat) (A : Option Addr) (PL : List S41) (rc : Int) (w0 : World) (a0 : Act) (Q : Exit → Act → World → Prop) (q1 : a0.tmps.getD 5 undef = .pointer (some ⟨g, 0, none⟩)) (k1 : w0.heap[g]? = some (.cells #[.slice A PL.length c] 28 (0, 0))) (hC : Kd.C k41 w0 A PL.length PL) (hl : PL.length ≤ c) (hc : code_Check.f k PL = some rc) (hr : tallowref20_Check.f k PL = some rc) : ∀ o, vops[1]? = some o → Loose.Step Try.prog vops (Vk.at (vtab g k c A PL rc) w0.heap.size) w0 a0 Q 1 o := by
  intro o ho
  have ho2 : (some ({ dst := some 10, op := Go.Op.call { callee := Go.Callee.value (Go.Operand.func 15), args := #[Go.Operand.tmp 9], argTypes := #[28] }, type := 29, pos := "law.go:24", after := #[{ on := 0, ground := Go.Ground.data }], guard := none }) : Option Oper) = some o := ho
  obtain rfl := Option.some.inj ho2
  clear ho2 ho
  intro listed a w hd hI
  have h9 : ((.val (.agg #[.slice A PL.length c])) : Vk).ok w0.heap.size (a.tmps.getD 9 undef) w := hI.has 0 _ 9 rfl rfl (hd ⟨0, .data⟩ (by simp) rfl)
  refine ⟨Loose.wanted_none rfl _, fun K hK => ?_⟩
  replace h9 : a.tmps.getD 9 undef = (.agg #[.slice A PL.length c]) := h9
  refine Loose.call_step Try.func15 (by kernel_rfl) rfl #[.agg #[.slice A PL.length c]] rfl (by simp [Act.eval, h9]) ((code_Check.calls k A c PL rc w (Kd.C_below hC hI.below) hl hc).mono ?_)
  rintro e w' ⟨rfl, hb⟩
  exact ⟨_, rfl, hK _ w' hb rfl⟩
set_option maxRecDepth 100000 in
theorem vstep2 (g k c : Nat) (A : Option Addr) (PL : List S41) (rc : Int) (w0 : World) (a0 : Act) (Q : Exit → Act → World → Prop) (q1 : a0.tmps.getD 5 undef = .pointer (some ⟨g, 0, none⟩)) (k1 : w0.heap[g]? = some (.cells #[.slice A PL.length c] 28 (0, 0))) (hC : Kd.C k41 w0 A PL.length PL) (hl : PL.length ≤ c) (hc : code_Check.f k PL = some rc) (hr : tallowref20_Check.f k PL = some rc) : ∀ o, vops[2]? = some o → Loose.Step Try.prog vops (Vk.at (vtab g k c A PL rc) w0.heap.size) w0 a0 Q 2 o := by
  intro o ho
  have ho2 : (some ({ dst := some 11, op := Go.Op.load 28 (Go.Operand.tmp 5), type := 28, pos := "law.go:24", after := #[], guard := none }) : Option Oper) = some o := ho
  obtain rfl := Option.some.inj ho2
  clear ho2 ho
  intro listed a w hd hI
  refine ⟨Loose.wanted_none rfl _, fun K hK => ?_⟩
  have e1 : a.tmps.getD 5 undef = .pointer (some ⟨g, 0, none⟩) := (hI.others 5 (Loose.no_dst (by kernel_rfl))).trans q1
  have hk := (hI.below.block g (blk_lt k1)).trans k1
  have hc0 : w.cell? ⟨g, 0, none⟩ = some (.slice A PL.length c) := (blk_cell hk 0).trans rfl
  refine Loose.value_step (v := .agg #[.slice A PL.length c]) (w' := w) ?_ (hK _ _ (Below.refl _ _) rfl)
  unfold execOp
  simp only [Act.eval, e1]
  go_simp
set_option maxRecDepth 100000 in
theorem vstep3 (g k c : Nat) (A : Option Addr) (PL : List S41) (rc : Int) (w0 : World) (a0 : Act) (Q : Exit → Act → World → Prop) (q1 : a0.tmps.getD 5 undef = .pointer (some ⟨g, 0, none⟩)) (k1 : w0.heap[g]? = some (.cells #[.slice A PL.length c] 28 (0, 0))) (hC : Kd.C k41 w0 A PL.length PL) (hl : PL.length ≤ c) (hc : code_Check.f k PL = some rc) (hr : tallowref20_Check.f k PL = some rc) : ∀ o, vops[3]? = some o → Loose.Step Try.prog vops (Vk.at (vtab g k c A PL rc) w0.heap.size) w0 a0 Q 3 o := by
  intro o ho
  have ho2 : (some ({ dst := some 12, op := Go.Op.call { callee := Go.Callee.value (Go.Operand.func 16), args := #[Go.Operand.tmp 11], argTypes := #[28] }, type := 29, pos := "law.go:24", after := #[{ on := 2, ground := Go.Ground.data }, { on := 1, ground := Go.Ground.chain }], guard := none }) : Option Oper) = some o := ho
  obtain rfl := Option.some.inj ho2
  clear ho2 ho
  intro listed a w hd hI
  have h11 : ((.val (.agg #[.slice A PL.length c])) : Vk).ok w0.heap.size (a.tmps.getD 11 undef) w := hI.has 2 _ 11 rfl rfl (hd ⟨2, .data⟩ (by simp) rfl)
  refine ⟨Loose.wanted_none rfl _, fun K hK => ?_⟩
  replace h11 : a.tmps.getD 11 undef = (.agg #[.slice A PL.length c]) := h11
  refine Loose.call_step Try.func16 (by kernel_rfl) rfl #[.agg #[.slice A PL.length c]] rfl (by simp [Act.eval, h11]) ((tallowref20_Check.calls k A c PL rc w (Kd.C_below hC hI.below) hl hr).mono ?_)
  rintro e w' ⟨rfl, hb⟩
  exact ⟨_, rfl, hK _ w' hb rfl⟩
set_option maxRecDepth 100000 in
theorem vstep4 (g k c : Nat) (A : Option Addr) (PL : List S41) (rc : Int) (w0 : World) (a0 : Act) (Q : Exit → Act → World → Prop) (q1 : a0.tmps.getD 5 undef = .pointer (some ⟨g, 0, none⟩)) (k1 : w0.heap[g]? = some (.cells #[.slice A PL.length c] 28 (0, 0))) (hC : Kd.C k41 w0 A PL.length PL) (hl : PL.length ≤ c) (hc : code_Check.f k PL = some rc) (hr : tallowref20_Check.f k PL = some rc) : ∀ o, vops[4]? = some o → Loose.Step Try.prog vops (Vk.at (vtab g k c A PL rc) w0.heap.size) w0 a0 Q 4 o := by
  intro o ho
  have ho2 : (some ({ dst := some 13, op := Go.Op.binOp Go.BinOp.eql 29 (Go.Operand.tmp 10) (Go.Operand.tmp 12) 29, type := 4, pos := "law.go:24", after := #[{ on := 1, ground := Go.Ground.data }, { on := 3, ground := Go.Ground.data }], guard := none }) : Option Oper) = some o := ho
  obtain rfl := Option.some.inj ho2
  clear ho2 ho
  intro listed a w hd hI
  have h10 : ((.val (.int .i64 rc)) : Vk).ok w0.heap.size (a.tmps.getD 10 undef) w := hI.has 1 _ 10 rfl rfl (hd ⟨1, .data⟩ (by simp) rfl)
  have h12 : ((.val (.int .i64 rc)) : Vk).ok w0.heap.size (a.tmps.getD 12 undef) w := hI.has 3 _ 12 rfl rfl (hd ⟨3, .data⟩ (by simp) rfl)
  refine ⟨Loose.wanted_none rfl _, fun K hK => ?_⟩
  replace h10 : a.tmps.getD 10 undef = (.int .i64 rc) := h10
  replace h12 : a.tmps.getD 12 undef = (.int .i64 rc) := h12
  refine Loose.value_step (v := .bool true) (w' := w) ?_ (hK _ _ (Below.refl _ _) rfl)
  unfold execOp
  simp only [Act.eval, h10, h12]
  go_simp
set_option maxRecDepth 100000 in
theorem vstep5 (g k c : Nat) (A : Option Addr) (PL : List S41) (rc : Int) (w0 : World) (a0 : Act) (Q : Exit → Act → World → Prop) (q1 : a0.tmps.getD 5 undef = .pointer (some ⟨g, 0, none⟩)) (k1 : w0.heap[g]? = some (.cells #[.slice A PL.length c] 28 (0, 0))) (hC : Kd.C k41 w0 A PL.length PL) (hl : PL.length ≤ c) (hc : code_Check.f k PL = some rc) (hr : tallowref20_Check.f k PL = some rc) : ∀ o, vops[5]? = some o → Loose.Step Try.prog vops (Vk.at (vtab g k c A PL rc) w0.heap.size) w0 a0 Q 5 o := by
  intro o ho
  have ho2 : (some ({ dst := some 14, op := Go.Op.move (Go.Operand.tmp 13), type := 4, pos := "law.go:24", after := #[{ on := 4, ground := Go.Ground.data }, { on := 3, ground := Go.Ground.chain }], guard := none }) : Option Oper) = some o := ho
  obtain rfl := Option.some.inj ho2
  clear ho2 ho
  intro listed a w hd hI
  have h13 : ((.val (.bool true)) : Vk).ok w0.heap.size (a.tmps.getD 13 undef) w := hI.has 4 _ 13 rfl rfl (hd ⟨4, .data⟩ (by simp) rfl)
  refine ⟨Loose.wanted_none rfl _, fun K hK => ?_⟩
  replace h13 : a.tmps.getD 13 undef = (.bool true) := h13
  refine Loose.value_step (v := .bool true) (w' := w) ?_ (hK _ _ (Below.refl _ _) rfl)
  simp [execOp, go_sem, Act.eval, h13]
set_option maxRecDepth 100000 in
theorem vstep6 (g k c : Nat) (A : Option Addr) (PL : List S41) (rc : Int) (w0 : World) (a0 : Act) (Q : Exit → Act → World → Prop) (q1 : a0.tmps.getD 5 undef = .pointer (some ⟨g, 0, none⟩)) (k1 : w0.heap[g]? = some (.cells #[.slice A PL.length c] 28 (0, 0))) (hC : Kd.C k41 w0 A PL.length PL) (hl : PL.length ≤ c) (hc : code_Check.f k PL = some rc) (hr : tallowref20_Check.f k PL = some rc) : ∀ o, vops[6]? = some o → Loose.Step Try.prog vops (Vk.at (vtab g k c A PL rc) w0.heap.size) w0 a0 Q 6 o := by
  intro o ho
  have ho2 : (some ({ dst := some 15, op := Go.Op.call { callee := Go.Callee.value (Go.Operand.func 14), args := #[], argTypes := #[] }, type := 4, pos := "law.go:24", after := #[{ on := 5, ground := Go.Ground.chain }, { on := 5, ground := Go.Ground.guard }], guard := some (5, true) }) : Option Oper) = some o := ho
  obtain rfl := Option.some.inj ho2
  clear ho2 ho
  intro listed a w hd hI
  have h14 : ((.val (.bool true)) : Vk).ok w0.heap.size (a.tmps.getD 14 undef) w := hI.has 5 _ 14 rfl rfl (hd ⟨5, .guard⟩ (by simp) rfl)
  refine ⟨Loose.wanted_some (d := 14) rfl rfl (show a.tmps.getD 14 undef = .bool true from h14), fun K hK => ?_⟩
  replace h14 : a.tmps.getD 14 undef = (.bool true) := h14
  refine Loose.call_step Try.func14 (by kernel_rfl) rfl #[] rfl (by simp [Act.eval]) ((tallowlaw20_works.calls true w rfl).mono ?_)
  rintro e w' ⟨rfl, hb⟩
  exact ⟨_, rfl, hK _ w' hb rfl⟩
set_option maxRecDepth 100000 in
theorem vstep7 (g k c : Nat) (A : Option Addr) (PL : List S41) (rc : Int) (w0 : World) (a0 : Act) (Q : Exit → Act → World → Prop) (q1 : a0.tmps.getD 5 undef = .pointer (some ⟨g, 0, none⟩)) (k1 : w0.heap[g]? = some (.cells #[.slice A PL.length c] 28 (0, 0))) (hC : Kd.C k41 w0 A PL.length PL) (hl : PL.length ≤ c) (hc : code_Check.f k PL = some rc) (hr : tallowref20_Check.f k PL = some rc) : ∀ o, vops[7]? = some o → Loose.Step Try.prog vops (Vk.at (vtab g k c A PL rc) w0.heap.size) w0 a0 Q 7 o := by
  intro o ho
  have ho2 : (some ({ dst := some 16, op := Go.Op.pick (Go.Operand.tmp 14) (Go.Operand.tmp 15) (Go.Operand.const (Go.Value.bool false)), type := 4, pos := "law.go:24", after := #[{ on := 5, ground := Go.Ground.data }, { on := 6, ground := Go.Ground.data }], guard := none }) : Option Oper) = some o := ho
  obtain rfl := Option.some.inj ho2
  clear ho2 ho
  intro listed a w hd hI
  have h14 : ((.val (.bool true)) : Vk).ok w0.heap.size (a.tmps.getD 14 undef) w := hI.has 5 _ 14 rfl rfl (hd ⟨5, .data⟩ (by simp) rfl)
  have h15 : ((.val (.bool true)) : Vk).ok w0.heap.size (a.tmps.getD 15 undef) w := hI.has 6 _ 15 rfl rfl (hd ⟨6, .data⟩ (by simp) rfl)
  refine ⟨Loose.wanted_none rfl _, fun K hK => ?_⟩
  replace h14 : a.tmps.getD 14 undef = (.bool true) := h14
  replace h15 : a.tmps.getD 15 undef = (.bool true) := h15
  refine Loose.value_step (v := .bool true) (w' := w) ?_ (hK _ _ (Below.refl _ _) rfl)
  simp [execOp, go_sem, Act.eval, h14, h15]
set_option maxRecDepth 100000 in
theorem vstep8 (g k c : Nat) (A : Option Addr) (PL : List S41) (rc : Int) (w0 : World) (a0 : Act) (Q : Exit → Act → World → Prop) (q1 : a0.tmps.getD 5 undef = .pointer (some ⟨g, 0, none⟩)) (k1 : w0.heap[g]? = some (.cells #[.slice A PL.length c] 28 (0, 0))) (hC : Kd.C k41 w0 A PL.length PL) (hl : PL.length ≤ c) (hc : code_Check.f k PL = some rc) (hr : tallowref20_Check.f k PL = some rc) : ∀ o, vops[8]? = some o → Loose.Step Try.prog vops (Vk.at (vtab g k c A PL rc) w0.heap.size) w0 a0 Q 8 o := by
  intro o ho
  have ho2 : (some ({ dst := some 4, op := Go.Op.assign (Go.Operand.tmp 16), type := 4, pos := "law.go:24", after := #[{ on := 7, ground := Go.Ground.data }, { on := 6, ground := Go.Ground.chain }, { on := 0, ground := Go.Ground.phase }, { on := 1, ground := Go.Ground.phase }, { on := 2, ground := Go.Ground.phase }, { on := 3, ground := Go.Ground.phase }, { on := 4, ground := Go.Ground.phase }, { on := 5, ground := Go.Ground.phase }, { on := 6, ground := Go.Ground.phase }, { on := 7, ground := Go.Ground.phase }], guard := none }) : Option Oper) = some o := ho
  obtain rfl := Option.some.inj ho2
  clear ho2 ho
  intro listed a w hd hI
  have h16 : ((.val (.bool true)) : Vk).ok w0.heap.size (a.tmps.getD 16 undef) w := hI.has 7 _ 16 rfl rfl (hd ⟨7, .data⟩ (by simp) rfl)
  refine ⟨Loose.wanted_none rfl _, fun K hK => ?_⟩
  replace h16 : a.tmps.getD 16 undef = (.bool true) := h16
  refine Loose.value_step (v := .bool true) (w' := w) ?_ (hK _ _ (Below.refl _ _) rfl)
  simp [execOp, go_sem, Act.eval, h16]
theorem vsteps (g k c : Nat) (A : Option Addr) (PL : List S41) (rc : Int) (w0 : World) (a0 : Act) (Q : Exit → Act → World → Prop) (q1 : a0.tmps.getD 5 undef = .pointer (some ⟨g, 0, none⟩)) (k1 : w0.heap[g]? = some (.cells #[.slice A PL.length c] 28 (0, 0))) (hC : Kd.C k41 w0 A PL.length PL) (hl : PL.length ≤ c) (hc : code_Check.f k PL = some rc) (hr : tallowref20_Check.f k PL = some rc) : ∀ (i : Nat) (o : Oper), vops[i]? = some o → Loose.Step Try.prog vops (Vk.at (vtab g k c A PL rc) w0.heap.size) w0 a0 Q i o := by
  intro i o ho
  rcases (by omega : i = 0 ∨ i = 1 ∨ i = 2 ∨ i = 3 ∨ i = 4 ∨ i = 5 ∨ i = 6 ∨ i = 7 ∨ i = 8 ∨ 9 ≤ i) with rfl | rfl | rfl | rfl | rfl | rfl | rfl | rfl | rfl | h
  · exact vstep0 g k c A PL rc w0 a0 Q q1 k1 hC hl hc hr o ho
  · exact vstep1 g k c A PL rc w0 a0 Q q1 k1 hC hl hc hr o ho
  · exact vstep2 g k c A PL rc w0 a0 Q q1 k1 hC hl hc hr o ho
  · exact vstep3 g k c A PL rc w0 a0 Q q1 k1 hC hl hc hr o ho
  · exact vstep4 g k c A PL rc w0 a0 Q q1 k1 hC hl hc hr o ho
  · exact vstep5 g k c A PL rc w0 a0 Q q1 k1 hC hl hc hr o ho
  · exact vstep6 g k c A PL rc w0 a0 Q q1 k1 hC hl hc hr o ho
  · exact vstep7 g k c A PL rc w0 a0 Q q1 k1 hC hl hc hr o ho
  · exact vstep8 g k c A PL rc w0 a0 Q q1 k1 hC hl hc hr o ho
  · have : vops.size ≤ i := Nat.le_trans (Nat.le_of_eq (by kernel_rfl)) h
    rw [Array.getElem?_eq_none this] at ho; cases ho
set_option maxHeartbeats 4000000 in
set_option maxRecDepth 100000 in
theorem codeInstrs_any (a b c u0 u1 u2 u3 : Int) (w : World) (h0 : 0 ≤ u0 ∧ u0 < 256) (h1 : 0 ≤ u1 ∧ u1 < 256) (h2 : 0 ≤ u2 ∧ u2 < 256) (h3 : 0 ≤ u3 ∧ u3 < 256)
    (rc : Int) (k : Nat) (hc : code_Check.f k (progL a b c u0 u1 u2 u3) = some rc) (hr : tallowref20_Check.f k (progL a b c u0 u1 u2 u3) = some rc) :
    Calls Try.prog 5 #[.agg #[.int .i64 a, .int .i64 b, .int .i64 c], .agg #[.int .u8 u0, .int .u8 u1, .int .u8 u2, .int .u8 u3]] w
      fun e w' => e = .returned (.bool true) ∧ Below w.heap.size w w' := by
  have HC := Aside0.mk hc
  have HRc := Aside0.mk hr
  clear hc hr
  go_enter Try.func5, Try.ntmps5
  go_wp2_with fail
  refine (program_any a b c u0 u1 u2 u3 _ h0 h1 h2 h3).mono ?_
  generalize progL a b c u0 u1 u2 u3 = PL at *
  rintro e w1 ⟨A, cp, rfl, hl, hC, hb⟩
  have HCC := Aside0.mk hC
  have HL := Aside0.mk hl
  have HB := Aside0.mk (show Below w.heap.size w w1 from below_step (by repeat (first | exact Below.refl _ _ | apply below_alloc)) hb)
  clear hC hl hb
  go_wp2_with fail
  have HK1 := Aside0.mk (blk_new w1 (Obj.cells #[Value.slice A PL.length cp] 28))
  have HC2 := Aside0.mk (Kd.C_alloc HCC.out (Obj.cells #[Value.slice A PL.length cp] 28))
  have HB2 := Aside0.mk (below_alloc HB.out (Obj.cells #[Value.slice A PL.length cp] 28))
  clear HCC HB
  generalize w1.alloc (Obj.cells #[Value.slice A PL.length cp] 28) = W at *
  generalize w1.heap.size = g at *
  refine Loose.region (ops := vops) (V := Vk.at (vtab g k cp A PL rc) W.drew.heap.size) (by kernel_rfl) (Vk.stable _ _) (Loose.ins_of (by kernel_rfl)) vdsts rfl (vsteps g k cp A PL rc W.drew _ _ rfl ?k1 ?k2 HL.out HC.out HRc.out) ?k3
  case k1 => exact HK1.out
  case k2 => exact Kd.C_drew HC2.out
  case k3 =>
    intro listed a4 w4 hr hI
    have s0 : a4.tmps.getD 4 undef = .bool true := hI.has 8 _ 4 rfl rfl (Loose.all_listed vdeps hI.lsize hr 8 (by decide +kernel))
    have hb4 : Below W.heap.size W w4 := (below_drew (Below.refl _ _)).trans hI.below
    have hfin := HB2.out.trans (hb4.mono HB2.out.size)
    have hdf : a4.defers = [] := hI.defers
    clear hI hr HK1 HC2 HB2 hb4
    obtain ⟨t, d⟩ := a4
    dsimp only at s0 hdf
    subst hdf
    go_wp2_with fail
    refine bodyPost_ret (results_tmp rfl _ _ _) rfl ?_
    exact ⟨by rw [s0], hfin⟩
def tallowlaw20_CodeInstrs.f (k : Nat) (a b c u0 u1 u2 u3 : Int) : Option Bool :=
  if (0 ≤ u0 ∧ u0 < 256) ∧ (0 ≤ u1 ∧ u1 < 256) ∧ (0 ≤ u2 ∧ u2 < 256) ∧ (0 ≤ u3 ∧ u3 < 256) then
    (code_Check.f k (progL a b c u0 u1 u2 u3)).bind fun x => (tallowref20_Check.f k (progL a b c u0 u1 u2 u3)).bind fun y => if x = y then some true else none
  else none
theorem tallowlaw20_CodeInstrs.calls (k : Nat) (a0_0 : Int) (a0_1 : Int) (a0_2 : Int) (a1_0 : Int) (a1_1 : Int) (a1_2 : Int) (a1_3 : Int) (r : Bool) (w : World) (h : tallowlaw20_CodeInstrs.f k a0_0 a0_1 a0_2 a1_0 a1_1 a1_2 a1_3 = some r) :
    Calls Try.prog 5 #[.agg #[.int .i64 a0_0, .int .i64 a0_1, .int .i64 a0_2], .agg #[.int .u8 a1_0, .int .u8 a1_1, .int .u8 a1_2, .int .u8 a1_3]] w
      fun e w' => e = .returned (.bool r) ∧ Below w.heap.size w w' := by
  unfold tallowlaw20_CodeInstrs.f at h
  by_cases hh : (0 ≤ a1_0 ∧ a1_0 < 256) ∧ (0 ≤ a1_1 ∧ a1_1 < 256) ∧ (0 ≤ a1_2 ∧ a1_2 < 256) ∧ (0 ≤ a1_3 ∧ a1_3 < 256)
  · rw [if_pos hh] at h
    obtain ⟨x, hx, h⟩ := Option.bind_eq_some_iff.mp h
    obtain ⟨y, hy, h⟩ := Option.bind_eq_some_iff.mp h
    by_cases e : x = y
    · rw [if_pos e] at h
      obtain rfl := Option.some.inj h
      subst e
      exact codeInstrs_any a0_0 a0_1 a0_2 a1_0 a1_1 a1_2 a1_3 w hh.1 hh.2.1 hh.2.2.1 hh.2.2.2 x k hx hy
    · rw [if_neg e] at h; cases h
  · rw [if_neg hh] at h; cases h
end Go.Proofs.Ytpdcedmnkkiekaa.G
end
