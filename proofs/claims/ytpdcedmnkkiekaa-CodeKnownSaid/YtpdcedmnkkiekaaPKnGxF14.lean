import Derived.Test.YtpdcedmnkkiekaaPKnGx0
import Derived.Test.YtpdcedmnkkiekaaPKnLoose
import Derived.Test.YtpdcedmnkkiekaaPKnGxF10
import Derived.Test.YtpdcedmnkkiekaaPKnGxF12
import Derived.Test.YtpdcedmnkkiekaaPKnGxF15
import Derived.Test.YtpdcedmnkkiekaaPKnGxF17
import Derived.Test.YtpdcedmnkkiekaaPKnGxF20
set_option linter.unusedVariables false
set_option linter.unusedSimpArgs false
section
namespace Go.Proofs.Ytpdcedmnkkiekaa.G
open Go.RowKit Go.Proofs.YtpdcedmnkkiekaaW.PrintWords Go.Proofs.YtpdcedmnkkiekaaW.PrintLast Go.Proofs.YtpdcedmnkkiekaaW.PrintMore
attribute [local go_sem] max2_int min2_int max_two min_two max_three min_three max_four min_four
set_option linter.unusedVariables false
set_option linter.unusedSimpArgs false
inductive Vk where
  | val (v : Value)
  | ins (l : List S33)
  | prg (l : List S41)
def Vk.ok (base : Nat) : Vk → Value → World → Prop
  | .val v => fun u _ => u = v
  | .ins l => fun u w => Kd.R k33 33 w base (fun _ => True) u l
  | .prg l => fun u w => ∃ A c, u = .agg #[.slice A l.length c] ∧ l.length ≤ c ∧ Kd.C k41 w A l.length l
def Vk.at (tab : List Vk) (base : Nat) (i : Nat) : Value → World → Prop := Vk.ok base (tab.getD i (.val undef))
theorem Vk.stable (tab : List Vk) (base : Nat) : ∀ i v (w w' : World), Vk.at tab base i v w → Below w.heap.size w w' → Vk.at tab base i v w' := by
  intro i v w w' h hb
  unfold Vk.at at h ⊢
  cases hk : tab.getD i (.val undef) with
  | val u => rw [hk] at h; exact h
  | ins l => rw [hk] at h; exact Kd.R_below h hb
  | prg l =>
    rw [hk] at h
    obtain ⟨A, c, e, hle, hC⟩ := h
    exact ⟨A, c, e, hle, Kd.C_below hC hb⟩
def cells33 (xs : List S33) : List Value := xs.flatMap fun x => [.int .i64 x.f0, .int .i64 x.f1, .int .i64 x.f2]
theorem cells33_at : ∀ (xs : List S33) (j : Nat) (p : S33), xs[j]? = some p → ((cells33 xs).drop (j * 3)).take 3 = [.int .i64 p.f0, .int .i64 p.f1, .int .i64 p.f2]
  | [], j, p, h => by simp at h
  | x :: l, 0, p, h => by
    obtain rfl : x = p := by simpa using h
    rfl
  | x :: l, j + 1, p, h => by
    show ((([.int .i64 x.f0, .int .i64 x.f1, .int .i64 x.f2] : List Value) ++ cells33 l).drop ((j + 1) * 3)).take 3 = _
    rw [show (j + 1) * 3 = ([.int .i64 x.f0, .int .i64 x.f1, .int .i64 x.f2] : List Value).length + j * 3 by (show (j + 1) * 3 = 3 + j * 3; omega), ← List.drop_drop, List.drop_left]
    exact cells33_at l j p (by simpa using h)
theorem cells33_len : ∀ xs : List S33, (cells33 xs).length = xs.length * 3
  | [] => rfl
  | x :: l => by
    rw [show cells33 (x :: l) = ([.int .i64 x.f0, .int .i64 x.f1, .int .i64 x.f2] : List Value) ++ cells33 l from rfl, List.length_append, cells33_len l]
    simp only [List.length_cons, List.length_nil]
    omega
theorem R33_new (w : World) (base : Nat) (hb : base ≤ w.heap.size) (xs : List S33) (hm : xs.length ≤ 1000) : Kd.R k33 33 (w.alloc (.cells (cells33 xs).toArray 33)) base (fun _ => True) (.slice (some ⟨w.heap.size, 0, none⟩) xs.length xs.length) xs := by
  refine ⟨fun _ _ => trivial, cells33 xs, ?_, ?_⟩
  · have h2 := World.ownsRow_lit (base := base) (e := 33) (size := 3) w (cells33 xs).toArray xs.length hb (by simp [maxLen]; omega) (by simp [cells33_len])
    have h3 : (w.alloc (.cells (cells33 xs).toArray 33)).ownsRow base 33 3 (.slice (some ⟨w.heap.size, 0, none⟩) xs.length xs.length) xs.length (cells33 xs) := by simpa using h2
    exact h3
  · refine ⟨cells33_len xs, fun j p hj => ?_⟩
    show k33.M _ _ _ p (((cells33 xs).drop (j * 3)).take 3)
    rw [cells33_at xs j p hj]
    exact k33_mkM _ _ _ p
noncomputable def wops : Array Oper := opsOf Try.f14 2
def wtab (g1 g2 : Nat) : List Vk := [(.val (.string ⟨#[110, 105, 108]⟩)), (.val (.bool true)), (.val (.bool true)), (.val (.string ⟨#[101, 110, 100, 116, 114, 121]⟩)), (.val (.bool true)), (.val (.bool true)), (.val (.bool true)), (.val (.int .i64 11)), (.val (.bool true)), (.val (.bool true)), (.val (.bool true)), (.val (.agg #[.int .i64 0, .int .i64 0, .int .i64 0])), (.val (.agg #[.int .i64 19, .int .i64 0, .int .i64 0])), (.ins [⟨0, 0, 0⟩, ⟨19, 0, 0⟩]), (.prg [⟨0, 1, [], [], [⟨0, 0, 0⟩, ⟨19, 0, 0⟩]⟩]), (.val (.int .i64 0)), (.val (.bool true)), (.val (.bool true)), (.val (.bool true)), (.val (.agg #[.slice none 0 0])), (.val (.int .i64 2)), (.val (.bool true)), (.val (.bool true)), (.val (.bool true)), (.val (.agg #[.int .i64 14, .int .i64 0, .int .i64 0])), (.val (.agg #[.int .i64 19, .int .i64 0, .int .i64 0])), (.ins [⟨14, 0, 0⟩, ⟨19, 0, 0⟩]), (.prg [⟨0, 1, [], [], [⟨14, 0, 0⟩, ⟨19, 0, 0⟩]⟩]), (.val (.int .i64 2)), (.val (.bool true)), (.val (.bool true)), (.val (.bool true)), (.val (.agg #[.int .i64 19, .int .i64 0, .int .i64 0])), (.ins [⟨19, 0, 0⟩]), (.prg [⟨0, 251, [], [], [⟨19, 0, 0⟩]⟩]), (.val (.int .i64 3)), (.val (.bool true)), (.val (.bool true)), (.val (.bool true)), (.val (.agg #[.int .i64 19, .int .i64 0, .int .i64 0])), (.ins [⟨19, 0, 0⟩]), (.prg [⟨0, 1, [], [], [⟨19, 0, 0⟩]⟩]), (.val (.agg #[.int .i64 19, .int .i64 0, .int .i64 0])), (.ins [⟨19, 0, 0⟩]), (.prg [⟨0, 1, [], [], [⟨19, 0, 0⟩]⟩]), (.val (.bool true)), (.val (.bool true)), (.val (.bool true)), (.val (.agg #[.int .i64 19, .int .i64 0, .int .i64 0])), (.ins [⟨19, 0, 0⟩]), (.prg [⟨0, 1, [], [], [⟨19, 0, 0⟩]⟩]), (.val (.agg #[.int .i64 19, .int .i64 0, .int .i64 0])), (.ins [⟨19, 0, 0⟩]), (.prg [⟨0, 2, [], [], [⟨19, 0, 0⟩]⟩]), (.val (.bool false)), (.val (.bool true)), (.val (.bool true)), (.val (.bool true))]
theorem wdsts : ∀ (i j : Nat) (oi oj : Oper) (d : Nat), wops[i]? = some oi → wops[j]? = some oj → oi.dst = some d → oj.dst = some d → i = j := Loose.dsts_of (l := [some 5, some 6, some 7, some 8, some 9, some 10, some 11, some 12, some 13, some 14, some 15, some 16, some 17, some 18, some 19, some 20, some 21, some 22, some 23, some 24, some 25, some 26, some 27, some 28, some 29, some 30, some 31, some 32, some 33, some 34, some 35, some 36, some 37, some 38, some 39, some 40, some 41, some 42, some 43, some 44, some 45, some 46, some 47, some 48, some 49, some 50, some 51, some 52, some 53, some 54, some 55, some 56, some 57, some 58, some 59, some 60, some 61, some 0]) (by kernel_rfl) (by decide)
theorem wdeps : ∀ (i : Nat) (o : Oper), wops[i]? = some o → ∀ e ∈ o.after, e.on < i := Loose.deps_of (by kernel_rfl)
set_option maxRecDepth 100000 in
theorem wstep0 (g1 g2 : Nat) (w0 : World) (a0 : Act) (Q : Exit → Act → World → Prop) (q1 : a0.tmps.getD 1 undef = .pointer (some ⟨g1, 0, none⟩)) (q2 : a0.tmps.getD 2 undef = .pointer (some ⟨g2, 0, none⟩)) (k1 : w0.heap[g1]? = some (.cells #[.int .i64 0, .int .i64 0, .int .i64 0] 33 (0, 0))) (k2 : w0.heap[g2]? = some (.cells #[.int .i64 19, .int .i64 0, .int .i64 0] 33 (0, 0))) : ∀ o, wops[0]? = some o → Loose.Step Try.prog wops (Vk.at (wtab g1 g2) w0.heap.size) w0 a0 Q 0 o := by
  intro o ho
  have ho2 : (some ({ dst := some 5, op := Go.Op.call { callee := Go.Callee.value (Go.Operand.func 10), args := #[Go.Operand.const (Go.Value.int Go.IntKind.i64 0)], argTypes := #[3] }, type := 9, pos := "outright.go:18", after := #[], guard := none }) : Option Oper) = some o := ho
  obtain rfl := Option.some.inj ho2
  clear ho2 ho
  intro listed a w hd hI
  refine ⟨Loose.wanted_none rfl _, fun K hK => ?_⟩
  refine Loose.call_step Try.func10 (by kernel_rfl) rfl #[.int .i64 0] rfl (by simp [Act.eval]) ((code_Name.calls 0 ⟨#[110, 105, 108]⟩ w rfl).mono ?_)
  rintro e w' ⟨rfl, hb⟩
  exact ⟨_, rfl, hK _ w' hb rfl⟩
set_option maxRecDepth 100000 in
theorem wstep1 (g1 g2 : Nat) (w0 : World) (a0 : Act) (Q : Exit → Act → World → Prop) (q1 : a0.tmps.getD 1 undef = .pointer (some ⟨g1, 0, none⟩)) (q2 : a0.tmps.getD 2 undef = .pointer (some ⟨g2, 0, none⟩)) (k1 : w0.heap[g1]? = some (.cells #[.int .i64 0, .int .i64 0, .int .i64 0] 33 (0, 0))) (k2 : w0.heap[g2]? = some (.cells #[.int .i64 19, .int .i64 0, .int .i64 0] 33 (0, 0))) : ∀ o, wops[1]? = some o → Loose.Step Try.prog wops (Vk.at (wtab g1 g2) w0.heap.size) w0 a0 Q 1 o := by
  intro o ho
  have ho2 : (some ({ dst := some 6, op := Go.Op.binOp Go.BinOp.eql 9 (Go.Operand.tmp 5) (Go.Operand.const (Go.Value.string { data := #[110, 105, 108] })) 9, type := 4, pos := "outright.go:18", after := #[{ on := 0, ground := Go.Ground.data }], guard := none }) : Option Oper) = some o := ho
  obtain rfl := Option.some.inj ho2
  clear ho2 ho
  intro listed a w hd hI
  have h5 : ((.val (.string ⟨#[110, 105, 108]⟩)) : Vk).ok w0.heap.size (a.tmps.getD 5 undef) w := hI.has 0 _ 5 rfl rfl (hd ⟨0, .data⟩ (by simp) rfl)
  refine ⟨Loose.wanted_none rfl _, fun K hK => ?_⟩
  replace h5 : a.tmps.getD 5 undef = (.string ⟨#[110, 105, 108]⟩) := h5
  refine Loose.value_step (v := .bool true) (w' := w) ?_ (hK _ _ (Below.refl _ _) rfl)
  unfold execOp
  simp only [Act.eval, h5]
  go_simp
set_option maxRecDepth 100000 in
theorem wstep2 (g1 g2 : Nat) (w0 : World) (a0 : Act) (Q : Exit → Act → World → Prop) (q1 : a0.tmps.getD 1 undef = .pointer (some ⟨g1, 0, none⟩)) (q2 : a0.tmps.getD 2 undef = .pointer (some ⟨g2, 0, none⟩)) (k1 : w0.heap[g1]? = some (.cells #[.int .i64 0, .int .i64 0, .int .i64 0] 33 (0, 0))) (k2 : w0.heap[g2]? = some (.cells #[.int .i64 19, .int .i64 0, .int .i64 0] 33 (0, 0))) : ∀ o, wops[2]? = some o → Loose.Step Try.prog wops (Vk.at (wtab g1 g2) w0.heap.size) w0 a0 Q 2 o := by
  intro o ho
  have ho2 : (some ({ dst := some 7, op := Go.Op.move (Go.Operand.tmp 6), type := 4, pos := "outright.go:18", after := #[{ on := 1, ground := Go.Ground.data }, { on := 0, ground := Go.Ground.chain }], guard := none }) : Option Oper) = some o := ho
  obtain rfl := Option.some.inj ho2
  clear ho2 ho
  intro listed a w hd hI
  have h6 : ((.val (.bool true)) : Vk).ok w0.heap.size (a.tmps.getD 6 undef) w := hI.has 1 _ 6 rfl rfl (hd ⟨1, .data⟩ (by simp) rfl)
  refine ⟨Loose.wanted_none rfl _, fun K hK => ?_⟩
  replace h6 : a.tmps.getD 6 undef = (.bool true) := h6
  refine Loose.value_step (v := .bool true) (w' := w) ?_ (hK _ _ (Below.refl _ _) rfl)
  simp [execOp, go_sem, Act.eval, h6]
set_option maxRecDepth 100000 in
theorem wstep3 (g1 g2 : Nat) (w0 : World) (a0 : Act) (Q : Exit → Act → World → Prop) (q1 : a0.tmps.getD 1 undef = .pointer (some ⟨g1, 0, none⟩)) (q2 : a0.tmps.getD 2 undef = .pointer (some ⟨g2, 0, none⟩)) (k1 : w0.heap[g1]? = some (.cells #[.int .i64 0, .int .i64 0, .int .i64 0] 33 (0, 0))) (k2 : w0.heap[g2]? = some (.cells #[.int .i64 19, .int .i64 0, .int .i64 0] 33 (0, 0))) : ∀ o, wops[3]? = some o → Loose.Step Try.prog wops (Vk.at (wtab g1 g2) w0.heap.size) w0 a0 Q 3 o := by
  intro o ho
  have ho2 : (some ({ dst := some 8, op := Go.Op.call { callee := Go.Callee.value (Go.Operand.func 10), args := #[Go.Operand.const (Go.Value.int Go.IntKind.i64 36)], argTypes := #[3] }, type := 9, pos := "outright.go:18", after := #[{ on := 2, ground := Go.Ground.chain }, { on := 2, ground := Go.Ground.guard }], guard := some (2, true) }) : Option Oper) = some o := ho
  obtain rfl := Option.some.inj ho2
  clear ho2 ho
  intro listed a w hd hI
  have h7 : ((.val (.bool true)) : Vk).ok w0.heap.size (a.tmps.getD 7 undef) w := hI.has 2 _ 7 rfl rfl (hd ⟨2, .guard⟩ (by simp) rfl)
  refine ⟨Loose.wanted_some (d := 7) rfl rfl (show a.tmps.getD 7 undef = .bool true from h7), fun K hK => ?_⟩
  replace h7 : a.tmps.getD 7 undef = (.bool true) := h7
  refine Loose.call_step Try.func10 (by kernel_rfl) rfl #[.int .i64 36] rfl (by simp [Act.eval]) ((code_Name.calls 36 ⟨#[101, 110, 100, 116, 114, 121]⟩ w rfl).mono ?_)
  rintro e w' ⟨rfl, hb⟩
  exact ⟨_, rfl, hK _ w' hb rfl⟩
set_option maxRecDepth 100000 in
theorem wstep4 (g1 g2 : Nat) (w0 : World) (a0 : Act) (Q : Exit → Act → World → Prop) (q1 : a0.tmps.getD 1 undef = .pointer (some ⟨g1, 0, none⟩)) (q2 : a0.tmps.getD 2 undef = .pointer (some ⟨g2, 0, none⟩)) (k1 : w0.heap[g1]? = some (.cells #[.int .i64 0, .int .i64 0, .int .i64 0] 33 (0, 0))) (k2 : w0.heap[g2]? = some (.cells #[.int .i64 19, .int .i64 0, .int .i64 0] 33 (0, 0))) : ∀ o, wops[4]? = some o → Loose.Step Try.prog wops (Vk.at (wtab g1 g2) w0.heap.size) w0 a0 Q 4 o := by
  intro o ho
  have ho2 : (some ({ dst := some 9, op := Go.Op.binOp Go.BinOp.eql 9 (Go.Operand.tmp 8) (Go.Operand.const (Go.Value.string { data := #[101, 110, 100, 116, 114, 121] })) 9, type := 4, pos := "outright.go:18", after := #[{ on := 3, ground := Go.Ground.data }, { on := 2, ground := Go.Ground.guard }], guard := some (2, true) }) : Option Oper) = some o := ho
  obtain rfl := Option.some.inj ho2
  clear ho2 ho
  intro listed a w hd hI
  have h8 : ((.val (.string ⟨#[101, 110, 100, 116, 114, 121]⟩)) : Vk).ok w0.heap.size (a.tmps.getD 8 undef) w := hI.has 3 _ 8 rfl rfl (hd ⟨3, .data⟩ (by simp) rfl)
  have h7 : ((.val (.bool true)) : Vk).ok w0.heap.size (a.tmps.getD 7 undef) w := hI.has 2 _ 7 rfl rfl (hd ⟨2, .guard⟩ (by simp) rfl)
  refine ⟨Loose.wanted_some (d := 7) rfl rfl (show a.tmps.getD 7 undef = .bool true from h7), fun K hK => ?_⟩
  replace h8 : a.tmps.getD 8 undef = (.string ⟨#[101, 110, 100, 116, 114, 121]⟩) := h8
  replace h7 : a.tmps.getD 7 undef = (.bool true) := h7
  refine Loose.value_step (v := .bool true) (w' := w) ?_ (hK _ _ (Below.refl _ _) rfl)
  unfold execOp
  simp only [Act.eval, h8]
  go_simp
set_option maxRecDepth 100000 in
theorem wstep5 (g1 g2 : Nat) (w0 : World) (a0 : Act) (Q : Exit → Act → World → Prop) (q1 : a0.tmps.getD 1 undef = .pointer (some ⟨g1, 0, none⟩)) (q2 : a0.tmps.getD 2 undef = .pointer (some ⟨g2, 0, none⟩)) (k1 : w0.heap[g1]? = some (.cells #[.int .i64 0, .int .i64 0, .int .i64 0] 33 (0, 0))) (k2 : w0.heap[g2]? = some (.cells #[.int .i64 19, .int .i64 0, .int .i64 0] 33 (0, 0))) : ∀ o, wops[5]? = some o → Loose.Step Try.prog wops (Vk.at (wtab g1 g2) w0.heap.size) w0 a0 Q 5 o := by
  intro o ho
  have ho2 : (some ({ dst := some 10, op := Go.Op.pick (Go.Operand.tmp 7) (Go.Operand.tmp 9) (Go.Operand.const (Go.Value.bool false)), type := 4, pos := "outright.go:18", after := #[{ on := 2, ground := Go.Ground.data }, { on := 4, ground := Go.Ground.data }], guard := none }) : Option Oper) = some o := ho
  obtain rfl := Option.some.inj ho2
  clear ho2 ho
  intro listed a w hd hI
  have h7 : ((.val (.bool true)) : Vk).ok w0.heap.size (a.tmps.getD 7 undef) w := hI.has 2 _ 7 rfl rfl (hd ⟨2, .data⟩ (by simp) rfl)
  have h9 : ((.val (.bool true)) : Vk).ok w0.heap.size (a.tmps.getD 9 undef) w := hI.has 4 _ 9 rfl rfl (hd ⟨4, .data⟩ (by simp) rfl)
  refine ⟨Loose.wanted_none rfl _, fun K hK => ?_⟩
  replace h7 : a.tmps.getD 7 undef = (.bool true) := h7
  replace h9 : a.tmps.getD 9 undef = (.bool true) := h9
  refine Loose.value_step (v := .bool true) (w' := w) ?_ (hK _ _ (Below.refl _ _) rfl)
  simp [execOp, go_sem, Act.eval, h7, h9]
set_option maxRecDepth 100000 in
theorem wstep6 (g1 g2 : Nat) (w0 : World) (a0 : Act) (Q : Exit → Act → World → Prop) (q1 : a0.tmps.getD 1 undef = .pointer (some ⟨g1, 0, none⟩)) (q2 : a0.tmps.getD 2 undef = .pointer (some ⟨g2, 0, none⟩)) (k1 : w0.heap[g1]? = some (.cells #[.int .i64 0, .int .i64 0, .int .i64 0] 33 (0, 0))) (k2 : w0.heap[g2]? = some (.cells #[.int .i64 19, .int .i64 0, .int .i64 0] 33 (0, 0))) : ∀ o, wops[6]? = some o → Loose.Step Try.prog wops (Vk.at (wtab g1 g2) w0.heap.size) w0 a0 Q 6 o := by
  intro o ho
  have ho2 : (some ({ dst := some 11, op := Go.Op.move (Go.Operand.tmp 10), type := 4, pos := "outright.go:18", after := #[{ on := 5, ground := Go.Ground.data }, { on := 3, ground := Go.Ground.chain }], guard := none }) : Option Oper) = some o := ho
  obtain rfl := Option.some.inj ho2
  clear ho2 ho
  intro listed a w hd hI
  have h10 : ((.val (.bool true)) : Vk).ok w0.heap.size (a.tmps.getD 10 undef) w := hI.has 5 _ 10 rfl rfl (hd ⟨5, .data⟩ (by simp) rfl)
  refine ⟨Loose.wanted_none rfl _, fun K hK => ?_⟩
  replace h10 : a.tmps.getD 10 undef = (.bool true) := h10
  refine Loose.value_step (v := .bool true) (w' := w) ?_ (hK _ _ (Below.refl _ _) rfl)
  simp [execOp, go_sem, Act.eval, h10]
set_option maxRecDepth 100000 in
theorem wstep7 (g1 g2 : Nat) (w0 : World) (a0 : Act) (Q : Exit → Act → World → Prop) (q1 : a0.tmps.getD 1 undef = .pointer (some ⟨g1, 0, none⟩)) (q2 : a0.tmps.getD 2 undef = .pointer (some ⟨g2, 0, none⟩)) (k1 : w0.heap[g1]? = some (.cells #[.int .i64 0, .int .i64 0, .int .i64 0] 33 (0, 0))) (k2 : w0.heap[g2]? = some (.cells #[.int .i64 19, .int .i64 0, .int .i64 0] 33 (0, 0))) : ∀ o, wops[7]? = some o → Loose.Step Try.prog wops (Vk.at (wtab g1 g2) w0.heap.size) w0 a0 Q 7 o := by
  intro o ho
  have ho2 : (some ({ dst := some 12, op := Go.Op.call { callee := Go.Callee.value (Go.Operand.func 12), args := #[Go.Operand.const (Go.Value.string { data := #[103, 101, 116, 103, 108, 111, 98] })], argTypes := #[9] }, type := 3, pos := "outright.go:18", after := #[{ on := 6, ground := Go.Ground.chain }, { on := 6, ground := Go.Ground.guard }], guard := some (6, true) }) : Option Oper) = some o := ho
  obtain rfl := Option.some.inj ho2
  clear ho2 ho
  intro listed a w hd hI
  have h11 : ((.val (.bool true)) : Vk).ok w0.heap.size (a.tmps.getD 11 undef) w := hI.has 6 _ 11 rfl rfl (hd ⟨6, .guard⟩ (by simp) rfl)
  refine ⟨Loose.wanted_some (d := 11) rfl rfl (show a.tmps.getD 11 undef = .bool true from h11), fun K hK => ?_⟩
  replace h11 : a.tmps.getD 11 undef = (.bool true) := h11
  refine Loose.call_step Try.func12 (by kernel_rfl) rfl #[.string ⟨#[103, 101, 116, 103, 108, 111, 98]⟩] rfl (by simp [Act.eval]) ((code_Op.calls ⟨#[103, 101, 116, 103, 108, 111, 98]⟩ 11 w (by decide +kernel)).mono ?_)
  rintro e w' ⟨rfl, hb⟩
  exact ⟨_, rfl, hK _ w' hb rfl⟩
set_option maxRecDepth 100000 in
theorem wstep8 (g1 g2 : Nat) (w0 : World) (a0 : Act) (Q : Exit → Act → World → Prop) (q1 : a0.tmps.getD 1 undef = .pointer (some ⟨g1, 0, none⟩)) (q2 : a0.tmps.getD 2 undef = .pointer (some ⟨g2, 0, none⟩)) (k1 : w0.heap[g1]? = some (.cells #[.int .i64 0, .int .i64 0, .int .i64 0] 33 (0, 0))) (k2 : w0.heap[g2]? = some (.cells #[.int .i64 19, .int .i64 0, .int .i64 0] 33 (0, 0))) : ∀ o, wops[8]? = some o → Loose.Step Try.prog wops (Vk.at (wtab g1 g2) w0.heap.size) w0 a0 Q 8 o := by
  intro o ho
  have ho2 : (some ({ dst := some 13, op := Go.Op.binOp Go.BinOp.eql 3 (Go.Operand.tmp 12) (Go.Operand.const (Go.Value.int Go.IntKind.i64 11)) 3, type := 4, pos := "outright.go:18", after := #[{ on := 7, ground := Go.Ground.data }, { on := 6, ground := Go.Ground.guard }], guard := some (6, true) }) : Option Oper) = some o := ho
  obtain rfl := Option.some.inj ho2
  clear ho2 ho
  intro listed a w hd hI
  have h12 : ((.val (.int .i64 11)) : Vk).ok w0.heap.size (a.tmps.getD 12 undef) w := hI.has 7 _ 12 rfl rfl (hd ⟨7, .data⟩ (by simp) rfl)
  have h11 : ((.val (.bool true)) : Vk).ok w0.heap.size (a.tmps.getD 11 undef) w := hI.has 6 _ 11 rfl rfl (hd ⟨6, .guard⟩ (by simp) rfl)
  refine ⟨Loose.wanted_some (d := 11) rfl rfl (show a.tmps.getD 11 undef = .bool true from h11), fun K hK => ?_⟩
  replace h12 : a.tmps.getD 12 undef = (.int .i64 11) := h12
  replace h11 : a.tmps.getD 11 undef = (.bool true) := h11
  refine Loose.value_step (v := .bool true) (w' := w) ?_ (hK _ _ (Below.refl _ _) rfl)
  unfold execOp
  simp only [Act.eval, h12]
  go_simp
set_option maxRecDepth 100000 in
theorem wstep9 (g1 g2 : Nat) (w0 : World) (a0 : Act) (Q : Exit → Act → World → Prop) (q1 : a0.tmps.getD 1 undef = .pointer (some ⟨g1, 0, none⟩)) (q2 : a0.tmps.getD 2 undef = .pointer (some ⟨g2, 0, none⟩)) (k1 : w0.heap[g1]? = some (.cells #[.int .i64 0, .int .i64 0, .int .i64 0] 33 (0, 0))) (k2 : w0.heap[g2]? = some (.cells #[.int .i64 19, .int .i64 0, .int .i64 0] 33 (0, 0))) : ∀ o, wops[9]? = some o → Loose.Step Try.prog wops (Vk.at (wtab g1 g2) w0.heap.size) w0 a0 Q 9 o := by
  intro o ho
  have ho2 : (some ({ dst := some 14, op := Go.Op.pick (Go.Operand.tmp 11) (Go.Operand.tmp 13) (Go.Operand.const (Go.Value.bool false)), type := 4, pos := "outright.go:18", after := #[{ on := 6, ground := Go.Ground.data }, { on := 8, ground := Go.Ground.data }], guard := none }) : Option Oper) = some o := ho
  obtain rfl := Option.some.inj ho2
  clear ho2 ho
  intro listed a w hd hI
  have h11 : ((.val (.bool true)) : Vk).ok w0.heap.size (a.tmps.getD 11 undef) w := hI.has 6 _ 11 rfl rfl (hd ⟨6, .data⟩ (by simp) rfl)
  have h13 : ((.val (.bool true)) : Vk).ok w0.heap.size (a.tmps.getD 13 undef) w := hI.has 8 _ 13 rfl rfl (hd ⟨8, .data⟩ (by simp) rfl)
  refine ⟨Loose.wanted_none rfl _, fun K hK => ?_⟩
  replace h11 : a.tmps.getD 11 undef = (.bool true) := h11
  replace h13 : a.tmps.getD 13 undef = (.bool true) := h13
  refine Loose.value_step (v := .bool true) (w' := w) ?_ (hK _ _ (Below.refl _ _) rfl)
  simp [execOp, go_sem, Act.eval, h11, h13]
set_option maxRecDepth 100000 in
theorem wstep10 (g1 g2 : Nat) (w0 : World) (a0 : Act) (Q : Exit → Act → World → Prop) (q1 : a0.tmps.getD 1 undef = .pointer (some ⟨g1, 0, none⟩)) (q2 : a0.tmps.getD 2 undef = .pointer (some ⟨g2, 0, none⟩)) (k1 : w0.heap[g1]? = some (.cells #[.int .i64 0, .int .i64 0, .int .i64 0] 33 (0, 0))) (k2 : w0.heap[g2]? = some (.cells #[.int .i64 19, .int .i64 0, .int .i64 0] 33 (0, 0))) : ∀ o, wops[10]? = some o → Loose.Step Try.prog wops (Vk.at (wtab g1 g2) w0.heap.size) w0 a0 Q 10 o := by
  intro o ho
  have ho2 : (some ({ dst := some 15, op := Go.Op.move (Go.Operand.tmp 14), type := 4, pos := "outright.go:18", after := #[{ on := 9, ground := Go.Ground.data }, { on := 7, ground := Go.Ground.chain }], guard := none }) : Option Oper) = some o := ho
  obtain rfl := Option.some.inj ho2
  clear ho2 ho
  intro listed a w hd hI
  have h14 : ((.val (.bool true)) : Vk).ok w0.heap.size (a.tmps.getD 14 undef) w := hI.has 9 _ 14 rfl rfl (hd ⟨9, .data⟩ (by simp) rfl)
  refine ⟨Loose.wanted_none rfl _, fun K hK => ?_⟩
  replace h14 : a.tmps.getD 14 undef = (.bool true) := h14
  refine Loose.value_step (v := .bool true) (w' := w) ?_ (hK _ _ (Below.refl _ _) rfl)
  simp [execOp, go_sem, Act.eval, h14]
set_option maxRecDepth 100000 in
theorem wstep11 (g1 g2 : Nat) (w0 : World) (a0 : Act) (Q : Exit → Act → World → Prop) (q1 : a0.tmps.getD 1 undef = .pointer (some ⟨g1, 0, none⟩)) (q2 : a0.tmps.getD 2 undef = .pointer (some ⟨g2, 0, none⟩)) (k1 : w0.heap[g1]? = some (.cells #[.int .i64 0, .int .i64 0, .int .i64 0] 33 (0, 0))) (k2 : w0.heap[g2]? = some (.cells #[.int .i64 19, .int .i64 0, .int .i64 0] 33 (0, 0))) : ∀ o, wops[11]? = some o → Loose.Step Try.prog wops (Vk.at (wtab g1 g2) w0.heap.size) w0 a0 Q 11 o := by
  intro o ho
  have ho2 : (some ({ dst := some 16, op := Go.Op.load 33 (Go.Operand.tmp 1), type := 33, pos := "outright.go:18", after := #[{ on := 10, ground := Go.Ground.guard }], guard := some (10, true) }) : Option Oper) = some o := ho
  obtain rfl := Option.some.inj ho2
  clear ho2 ho
  intro listed a w hd hI
  have h15 : ((.val (.bool true)) : Vk).ok w0.heap.size (a.tmps.getD 15 undef) w := hI.has 10 _ 15 rfl rfl (hd ⟨10, .guard⟩ (by simp) rfl)
  refine ⟨Loose.wanted_some (d := 15) rfl rfl (show a.tmps.getD 15 undef = .bool true from h15), fun K hK => ?_⟩
  replace h15 : a.tmps.getD 15 undef = (.bool true) := h15
  have e1 : a.tmps.getD 1 undef = .pointer (some ⟨g1, 0, none⟩) := (hI.others 1 (Loose.no_dst (by kernel_rfl))).trans q1
  have hk := (hI.below.block g1 (blk_lt k1)).trans k1
  have hc0 : w.cell? ⟨g1, 0, none⟩ = some (.int .i64 0) := (blk_cell hk 0).trans rfl
  have hc1 : w.cell? ⟨g1, 1, none⟩ = some (.int .i64 0) := (blk_cell hk 1).trans rfl
  have hc2 : w.cell? ⟨g1, 2, none⟩ = some (.int .i64 0) := (blk_cell hk 2).trans rfl
  refine Loose.value_step (v := .agg #[.int .i64 0, .int .i64 0, .int .i64 0]) (w' := w) ?_ (hK _ _ (Below.refl _ _) rfl)
  unfold execOp
  simp only [Act.eval, e1]
  go_simp
set_option maxRecDepth 100000 in
theorem wstep12 (g1 g2 : Nat) (w0 : World) (a0 : Act) (Q : Exit → Act → World → Prop) (q1 : a0.tmps.getD 1 undef = .pointer (some ⟨g1, 0, none⟩)) (q2 : a0.tmps.getD 2 undef = .pointer (some ⟨g2, 0, none⟩)) (k1 : w0.heap[g1]? = some (.cells #[.int .i64 0, .int .i64 0, .int .i64 0] 33 (0, 0))) (k2 : w0.heap[g2]? = some (.cells #[.int .i64 19, .int .i64 0, .int .i64 0] 33 (0, 0))) : ∀ o, wops[12]? = some o → Loose.Step Try.prog wops (Vk.at (wtab g1 g2) w0.heap.size) w0 a0 Q 12 o := by
  intro o ho
  have ho2 : (some ({ dst := some 17, op := Go.Op.load 33 (Go.Operand.tmp 2), type := 33, pos := "outright.go:18", after := #[{ on := 10, ground := Go.Ground.guard }], guard := some (10, true) }) : Option Oper) = some o := ho
  obtain rfl := Option.some.inj ho2
  clear ho2 ho
  intro listed a w hd hI
  have h15 : ((.val (.bool true)) : Vk).ok w0.heap.size (a.tmps.getD 15 undef) w := hI.has 10 _ 15 rfl rfl (hd ⟨10, .guard⟩ (by simp) rfl)
  refine ⟨Loose.wanted_some (d := 15) rfl rfl (show a.tmps.getD 15 undef = .bool true from h15), fun K hK => ?_⟩
  replace h15 : a.tmps.getD 15 undef = (.bool true) := h15
  have e1 : a.tmps.getD 2 undef = .pointer (some ⟨g2, 0, none⟩) := (hI.others 2 (Loose.no_dst (by kernel_rfl))).trans q2
  have hk := (hI.below.block g2 (blk_lt k2)).trans k2
  have hc0 : w.cell? ⟨g2, 0, none⟩ = some (.int .i64 19) := (blk_cell hk 0).trans rfl
  have hc1 : w.cell? ⟨g2, 1, none⟩ = some (.int .i64 0) := (blk_cell hk 1).trans rfl
  have hc2 : w.cell? ⟨g2, 2, none⟩ = some (.int .i64 0) := (blk_cell hk 2).trans rfl
  refine Loose.value_step (v := .agg #[.int .i64 19, .int .i64 0, .int .i64 0]) (w' := w) ?_ (hK _ _ (Below.refl _ _) rfl)
  unfold execOp
  simp only [Act.eval, e1]
  go_simp
set_option maxRecDepth 100000 in
theorem wstep13 (g1 g2 : Nat) (w0 : World) (a0 : Act) (Q : Exit → Act → World → Prop) (q1 : a0.tmps.getD 1 undef = .pointer (some ⟨g1, 0, none⟩)) (q2 : a0.tmps.getD 2 undef = .pointer (some ⟨g2, 0, none⟩)) (k1 : w0.heap[g1]? = some (.cells #[.int .i64 0, .int .i64 0, .int .i64 0] 33 (0, 0))) (k2 : w0.heap[g2]? = some (.cells #[.int .i64 19, .int .i64 0, .int .i64 0] 33 (0, 0))) : ∀ o, wops[13]? = some o → Loose.Step Try.prog wops (Vk.at (wtab g1 g2) w0.heap.size) w0 a0 Q 13 o := by
  intro o ho
  have ho2 : (some ({ dst := some 18, op := Go.Op.buildSlice 39 2 #[(0, Go.Operand.tmp 16), (1, Go.Operand.tmp 17)], type := 39, pos := "outright.go:18", after := #[{ on := 11, ground := Go.Ground.data }, { on := 12, ground := Go.Ground.data }, { on := 10, ground := Go.Ground.guard }], guard := some (10, true) }) : Option Oper) = some o := ho
  obtain rfl := Option.some.inj ho2
  clear ho2 ho
  intro listed a w hd hI
  have h16 : ((.val (.agg #[.int .i64 0, .int .i64 0, .int .i64 0])) : Vk).ok w0.heap.size (a.tmps.getD 16 undef) w := hI.has 11 _ 16 rfl rfl (hd ⟨11, .data⟩ (by simp) rfl)
  have h17 : ((.val (.agg #[.int .i64 19, .int .i64 0, .int .i64 0])) : Vk).ok w0.heap.size (a.tmps.getD 17 undef) w := hI.has 12 _ 17 rfl rfl (hd ⟨12, .data⟩ (by simp) rfl)
  have h15 : ((.val (.bool true)) : Vk).ok w0.heap.size (a.tmps.getD 15 undef) w := hI.has 10 _ 15 rfl rfl (hd ⟨10, .guard⟩ (by simp) rfl)
  refine ⟨Loose.wanted_some (d := 15) rfl rfl (show a.tmps.getD 15 undef = .bool true from h15), fun K hK => ?_⟩
  replace h16 : a.tmps.getD 16 undef = (.agg #[.int .i64 0, .int .i64 0, .int .i64 0]) := h16
  replace h17 : a.tmps.getD 17 undef = (.agg #[.int .i64 19, .int .i64 0, .int .i64 0]) := h17
  replace h15 : a.tmps.getD 15 undef = (.bool true) := h15
  refine Loose.value_step (v := .slice (some ⟨w.heap.size, 0, none⟩) 2 2) (w' := w.alloc (.cells #[.int .i64 0, .int .i64 0, .int .i64 0, .int .i64 19, .int .i64 0, .int .i64 0] 33)) ?_ (hK _ _ (below_alloc (Below.refl _ _) _) (R33_new w w0.heap.size hI.below.size [⟨0, 0, 0⟩, ⟨19, 0, 0⟩] (by decide)))
  unfold execOp
  simp only [Act.eval, List.map_toArray, List.map_cons, List.map_nil, h16, h17]
  go_simp
set_option maxRecDepth 100000 in
theorem wstep14 (g1 g2 : Nat) (w0 : World) (a0 : Act) (Q : Exit → Act → World → Prop) (q1 : a0.tmps.getD 1 undef = .pointer (some ⟨g1, 0, none⟩)) (q2 : a0.tmps.getD 2 undef = .pointer (some ⟨g2, 0, none⟩)) (k1 : w0.heap[g1]? = some (.cells #[.int .i64 0, .int .i64 0, .int .i64 0] 33 (0, 0))) (k2 : w0.heap[g2]? = some (.cells #[.int .i64 19, .int .i64 0, .int .i64 0] 33 (0, 0))) : ∀ o, wops[14]? = some o → Loose.Step Try.prog wops (Vk.at (wtab g1 g2) w0.heap.size) w0 a0 Q 14 o := by
  intro o ho
  have ho2 : (some ({ dst := some 19, op := Go.Op.call { callee := Go.Callee.value (Go.Operand.func 20), args := #[Go.Operand.const (Go.Value.int Go.IntKind.i64 1), Go.Operand.tmp 18], argTypes := #[3, 39] }, type := 28, pos := "outright.go:18", after := #[{ on := 13, ground := Go.Ground.data }, { on := 10, ground := Go.Ground.chain }, { on := 10, ground := Go.Ground.guard }], guard := some (10, true) }) : Option Oper) = some o := ho
  obtain rfl := Option.some.inj ho2
  clear ho2 ho
  intro listed a w hd hI
  have h18 : ((.ins [⟨0, 0, 0⟩, ⟨19, 0, 0⟩]) : Vk).ok w0.heap.size (a.tmps.getD 18 undef) w := hI.has 13 _ 18 rfl rfl (hd ⟨13, .data⟩ (by simp) rfl)
  have h15 : ((.val (.bool true)) : Vk).ok w0.heap.size (a.tmps.getD 15 undef) w := hI.has 10 _ 15 rfl rfl (hd ⟨10, .guard⟩ (by simp) rfl)
  refine ⟨Loose.wanted_some (d := 15) rfl rfl (show a.tmps.getD 15 undef = .bool true from h15), fun K hK => ?_⟩
  replace h15 : a.tmps.getD 15 undef = (.bool true) := h15
  have hR : Kd.R k33 33 w w0.heap.size (fun _ => True) (a.tmps.getD 18 undef) [⟨0, 0, 0⟩, ⟨19, 0, 0⟩] := h18
  obtain ⟨A, c, e1⟩ := Kd.R_slice hR
  rw [e1] at hR
  replace e1 : a.tmps.getD 18 undef = .slice A 2 c := e1
  refine Loose.call_step Try.func20 (by kernel_rfl) rfl #[.int .i64 1, .slice A 2 c] rfl (by simp [Act.eval, e1]) ((tallowlaw20_one.calls 1 _ A c [⟨0, 0, 0⟩, ⟨19, 0, 0⟩] [⟨0, 1, [], [], [⟨0, 0, 0⟩, ⟨19, 0, 0⟩]⟩] w (Kd.R_V (Kd.R_tight rfl hR)) rfl).mono ?_)
  rintro e w' ⟨v0, rfl, hN, hb⟩
  obtain ⟨A', c', rfl, hle, hC⟩ := Kd.N_reads hN
  exact ⟨_, rfl, hK _ w' hb ⟨A', c', rfl, hle, hC⟩⟩
set_option maxRecDepth 100000 in
theorem wstep15 (g1 g2 : Nat) (w0 : World) (a0 : Act) (Q : Exit → Act → World → Prop) (q1 : a0.tmps.getD 1 undef = .pointer (some ⟨g1, 0, none⟩)) (q2 : a0.tmps.getD 2 undef = .pointer (some ⟨g2, 0, none⟩)) (k1 : w0.heap[g1]? = some (.cells #[.int .i64 0, .int .i64 0, .int .i64 0] 33 (0, 0))) (k2 : w0.heap[g2]? = some (.cells #[.int .i64 19, .int .i64 0, .int .i64 0] 33 (0, 0))) : ∀ o, wops[15]? = some o → Loose.Step Try.prog wops (Vk.at (wtab g1 g2) w0.heap.size) w0 a0 Q 15 o := by
  intro o ho
  have ho2 : (some ({ dst := some 20, op := Go.Op.call { callee := Go.Callee.value (Go.Operand.func 15), args := #[Go.Operand.tmp 19], argTypes := #[28] }, type := 29, pos := "outright.go:18", after := #[{ on := 14, ground := Go.Ground.data }, { on := 14, ground := Go.Ground.chain }, { on := 10, ground := Go.Ground.guard }], guard := some (10, true) }) : Option Oper) = some o := ho
  obtain rfl := Option.some.inj ho2
  clear ho2 ho
  intro listed a w hd hI
  have h19 : ((.prg [⟨0, 1, [], [], [⟨0, 0, 0⟩, ⟨19, 0, 0⟩]⟩]) : Vk).ok w0.heap.size (a.tmps.getD 19 undef) w := hI.has 14 _ 19 rfl rfl (hd ⟨14, .data⟩ (by simp) rfl)
  have h15 : ((.val (.bool true)) : Vk).ok w0.heap.size (a.tmps.getD 15 undef) w := hI.has 10 _ 15 rfl rfl (hd ⟨10, .guard⟩ (by simp) rfl)
  refine ⟨Loose.wanted_some (d := 15) rfl rfl (show a.tmps.getD 15 undef = .bool true from h15), fun K hK => ?_⟩
  replace h15 : a.tmps.getD 15 undef = (.bool true) := h15
  obtain ⟨A, c, e1, hle, hC⟩ := h19
  replace e1 : a.tmps.getD 19 undef = .agg #[.slice A 1 c] := e1
  refine Loose.call_step Try.func15 (by kernel_rfl) rfl #[.agg #[.slice A 1 c]] rfl (by simp [Act.eval, e1]) ((code_Check.calls 40 A c [⟨0, 1, [], [], [⟨0, 0, 0⟩, ⟨19, 0, 0⟩]⟩] 0 w hC hle (by decide +kernel)).mono ?_)
  rintro e w' ⟨rfl, hb⟩
  exact ⟨_, rfl, hK _ w' hb rfl⟩
set_option maxRecDepth 100000 in
theorem wstep16 (g1 g2 : Nat) (w0 : World) (a0 : Act) (Q : Exit → Act → World → Prop) (q1 : a0.tmps.getD 1 undef = .pointer (some ⟨g1, 0, none⟩)) (q2 : a0.tmps.getD 2 undef = .pointer (some ⟨g2, 0, none⟩)) (k1 : w0.heap[g1]? = some (.cells #[.int .i64 0, .int .i64 0, .int .i64 0] 33 (0, 0))) (k2 : w0.heap[g2]? = some (.cells #[.int .i64 19, .int .i64 0, .int .i64 0] 33 (0, 0))) : ∀ o, wops[16]? = some o → Loose.Step Try.prog wops (Vk.at (wtab g1 g2) w0.heap.size) w0 a0 Q 16 o := by
  intro o ho
  have ho2 : (some ({ dst := some 21, op := Go.Op.binOp Go.BinOp.eql 29 (Go.Operand.tmp 20) (Go.Operand.const (Go.Value.int Go.IntKind.i64 0)) 29, type := 4, pos := "outright.go:18", after := #[{ on := 15, ground := Go.Ground.data }, { on := 10, ground := Go.Ground.guard }], guard := some (10, true) }) : Option Oper) = some o := ho
  obtain rfl := Option.some.inj ho2
  clear ho2 ho
  intro listed a w hd hI
  have h20 : ((.val (.int .i64 0)) : Vk).ok w0.heap.size (a.tmps.getD 20 undef) w := hI.has 15 _ 20 rfl rfl (hd ⟨15, .data⟩ (by simp) rfl)
  have h15 : ((.val (.bool true)) : Vk).ok w0.heap.size (a.tmps.getD 15 undef) w := hI.has 10 _ 15 rfl rfl (hd ⟨10, .guard⟩ (by simp) rfl)
  refine ⟨Loose.wanted_some (d := 15) rfl rfl (show a.tmps.getD 15 undef = .bool true from h15), fun K hK => ?_⟩
  replace h20 : a.tmps.getD 20 undef = (.int .i64 0) := h20
  replace h15 : a.tmps.getD 15 undef = (.bool true) := h15
  refine Loose.value_step (v := .bool true) (w' := w) ?_ (hK _ _ (Below.refl _ _) rfl)
  unfold execOp
  simp only [Act.eval, h20]
  go_simp
set_option maxRecDepth 100000 in
theorem wstep17 (g1 g2 : Nat) (w0 : World) (a0 : Act) (Q : Exit → Act → World → Prop) (q1 : a0.tmps.getD 1 undef = .pointer (some ⟨g1, 0, none⟩)) (q2 : a0.tmps.getD 2 undef = .pointer (some ⟨g2, 0, none⟩)) (k1 : w0.heap[g1]? = some (.cells #[.int .i64 0, .int .i64 0, .int .i64 0] 33 (0, 0))) (k2 : w0.heap[g2]? = some (.cells #[.int .i64 19, .int .i64 0, .int .i64 0] 33 (0, 0))) : ∀ o, wops[17]? = some o → Loose.Step Try.prog wops (Vk.at (wtab g1 g2) w0.heap.size) w0 a0 Q 17 o := by
  intro o ho
  have ho2 : (some ({ dst := some 22, op := Go.Op.pick (Go.Operand.tmp 15) (Go.Operand.tmp 21) (Go.Operand.const (Go.Value.bool false)), type := 4, pos := "outright.go:18", after := #[{ on := 10, ground := Go.Ground.data }, { on := 16, ground := Go.Ground.data }], guard := none }) : Option Oper) = some o := ho
  obtain rfl := Option.some.inj ho2
  clear ho2 ho
  intro listed a w hd hI
  have h15 : ((.val (.bool true)) : Vk).ok w0.heap.size (a.tmps.getD 15 undef) w := hI.has 10 _ 15 rfl rfl (hd ⟨10, .data⟩ (by simp) rfl)
  have h21 : ((.val (.bool true)) : Vk).ok w0.heap.size (a.tmps.getD 21 undef) w := hI.has 16 _ 21 rfl rfl (hd ⟨16, .data⟩ (by simp) rfl)
  refine ⟨Loose.wanted_none rfl _, fun K hK => ?_⟩
  replace h15 : a.tmps.getD 15 undef = (.bool true) := h15
  replace h21 : a.tmps.getD 21 undef = (.bool true) := h21
  refine Loose.value_step (v := .bool true) (w' := w) ?_ (hK _ _ (Below.refl _ _) rfl)
  simp [execOp, go_sem, Act.eval, h15, h21]
set_option maxRecDepth 100000 in
theorem wstep18 (g1 g2 : Nat) (w0 : World) (a0 : Act) (Q : Exit → Act → World → Prop) (q1 : a0.tmps.getD 1 undef = .pointer (some ⟨g1, 0, none⟩)) (q2 : a0.tmps.getD 2 undef = .pointer (some ⟨g2, 0, none⟩)) (k1 : w0.heap[g1]? = some (.cells #[.int .i64 0, .int .i64 0, .int .i64 0] 33 (0, 0))) (k2 : w0.heap[g2]? = some (.cells #[.int .i64 19, .int .i64 0, .int .i64 0] 33 (0, 0))) : ∀ o, wops[18]? = some o → Loose.Step Try.prog wops (Vk.at (wtab g1 g2) w0.heap.size) w0 a0 Q 18 o := by
  intro o ho
  have ho2 : (some ({ dst := some 23, op := Go.Op.move (Go.Operand.tmp 22), type := 4, pos := "outright.go:18", after := #[{ on := 17, ground := Go.Ground.data }, { on := 15, ground := Go.Ground.chain }], guard := none }) : Option Oper) = some o := ho
  obtain rfl := Option.some.inj ho2
  clear ho2 ho
  intro listed a w hd hI
  have h22 : ((.val (.bool true)) : Vk).ok w0.heap.size (a.tmps.getD 22 undef) w := hI.has 17 _ 22 rfl rfl (hd ⟨17, .data⟩ (by simp) rfl)
  refine ⟨Loose.wanted_none rfl _, fun K hK => ?_⟩
  replace h22 : a.tmps.getD 22 undef = (.bool true) := h22
  refine Loose.value_step (v := .bool true) (w' := w) ?_ (hK _ _ (Below.refl _ _) rfl)
  simp [execOp, go_sem, Act.eval, h22]
set_option maxRecDepth 100000 in
theorem wstep19 (g1 g2 : Nat) (w0 : World) (a0 : Act) (Q : Exit → Act → World → Prop) (q1 : a0.tmps.getD 1 undef = .pointer (some ⟨g1, 0, none⟩)) (q2 : a0.tmps.getD 2 undef = .pointer (some ⟨g2, 0, none⟩)) (k1 : w0.heap[g1]? = some (.cells #[.int .i64 0, .int .i64 0, .int .i64 0] 33 (0, 0))) (k2 : w0.heap[g2]? = some (.cells #[.int .i64 19, .int .i64 0, .int .i64 0] 33 (0, 0))) : ∀ o, wops[19]? = some o → Loose.Step Try.prog wops (Vk.at (wtab g1 g2) w0.heap.size) w0 a0 Q 19 o := by
  intro o ho
  have ho2 : (some ({ dst := some 24, op := Go.Op.build 28 #[], type := 28, pos := "outright.go:18", after := #[{ on := 18, ground := Go.Ground.guard }], guard := some (18, true) }) : Option Oper) = some o := ho
  obtain rfl := Option.some.inj ho2
  clear ho2 ho
  intro listed a w hd hI
  have h23 : ((.val (.bool true)) : Vk).ok w0.heap.size (a.tmps.getD 23 undef) w := hI.has 18 _ 23 rfl rfl (hd ⟨18, .guard⟩ (by simp) rfl)
  refine ⟨Loose.wanted_some (d := 23) rfl rfl (show a.tmps.getD 23 undef = .bool true from h23), fun K hK => ?_⟩
  replace h23 : a.tmps.getD 23 undef = (.bool true) := h23
  refine Loose.value_step (v := .agg #[.slice none 0 0]) (w' := w) ?_ (hK _ _ (Below.refl _ _) rfl)
  unfold execOp
  simp only [Act.eval]
  go_simp
set_option maxRecDepth 100000 in
theorem wstep20 (g1 g2 : Nat) (w0 : World) (a0 : Act) (Q : Exit → Act → World → Prop) (q1 : a0.tmps.getD 1 undef = .pointer (some ⟨g1, 0, none⟩)) (q2 : a0.tmps.getD 2 undef = .pointer (some ⟨g2, 0, none⟩)) (k1 : w0.heap[g1]? = some (.cells #[.int .i64 0, .int .i64 0, .int .i64 0] 33 (0, 0))) (k2 : w0.heap[g2]? = some (.cells #[.int .i64 19, .int .i64 0, .int .i64 0] 33 (0, 0))) : ∀ o, wops[20]? = some o → Loose.Step Try.prog wops (Vk.at (wtab g1 g2) w0.heap.size) w0 a0 Q 20 o := by
  intro o ho
  have ho2 : (some ({ dst := some 25, op := Go.Op.call { callee := Go.Callee.value (Go.Operand.func 15), args := #[Go.Operand.tmp 24], argTypes := #[28] }, type := 29, pos := "outright.go:18", after := #[{ on := 19, ground := Go.Ground.data }, { on := 18, ground := Go.Ground.chain }, { on := 18, ground := Go.Ground.guard }], guard := some (18, true) }) : Option Oper) = some o := ho
  obtain rfl := Option.some.inj ho2
  clear ho2 ho
  intro listed a w hd hI
  have h24 : ((.val (.agg #[.slice none 0 0])) : Vk).ok w0.heap.size (a.tmps.getD 24 undef) w := hI.has 19 _ 24 rfl rfl (hd ⟨19, .data⟩ (by simp) rfl)
  have h23 : ((.val (.bool true)) : Vk).ok w0.heap.size (a.tmps.getD 23 undef) w := hI.has 18 _ 23 rfl rfl (hd ⟨18, .guard⟩ (by simp) rfl)
  refine ⟨Loose.wanted_some (d := 23) rfl rfl (show a.tmps.getD 23 undef = .bool true from h23), fun K hK => ?_⟩
  replace h24 : a.tmps.getD 24 undef = (.agg #[.slice none 0 0]) := h24
  replace h23 : a.tmps.getD 23 undef = (.bool true) := h23
  refine Loose.call_step Try.func15 (by kernel_rfl) rfl #[.agg #[.slice none 0 0]] rfl (by simp [Act.eval, h24]) ((code_Check.calls 40 none 0 [] 2 w (Kd.C_nil _ _) (by decide) (by decide +kernel)).mono ?_)
  rintro e w' ⟨rfl, hb⟩
  exact ⟨_, rfl, hK _ w' hb rfl⟩
set_option maxRecDepth 100000 in
theorem wstep21 (g1 g2 : Nat) (w0 : World) (a0 : Act) (Q : Exit → Act → World → Prop) (q1 : a0.tmps.getD 1 undef = .pointer (some ⟨g1, 0, none⟩)) (q2 : a0.tmps.getD 2 undef = .pointer (some ⟨g2, 0, none⟩)) (k1 : w0.heap[g1]? = some (.cells #[.int .i64 0, .int .i64 0, .int .i64 0] 33 (0, 0))) (k2 : w0.heap[g2]? = some (.cells #[.int .i64 19, .int .i64 0, .int .i64 0] 33 (0, 0))) : ∀ o, wops[21]? = some o → Loose.Step Try.prog wops (Vk.at (wtab g1 g2) w0.heap.size) w0 a0 Q 21 o := by
  intro o ho
  have ho2 : (some ({ dst := some 26, op := Go.Op.binOp Go.BinOp.eql 29 (Go.Operand.tmp 25) (Go.Operand.const (Go.Value.int Go.IntKind.i64 2)) 29, type := 4, pos := "outright.go:18", after := #[{ on := 20, ground := Go.Ground.data }, { on := 18, ground := Go.Ground.guard }], guard := some (18, true) }) : Option Oper) = some o := ho
  obtain rfl := Option.some.inj ho2
  clear ho2 ho
  intro listed a w hd hI
  have h25 : ((.val (.int .i64 2)) : Vk).ok w0.heap.size (a.tmps.getD 25 undef) w := hI.has 20 _ 25 rfl rfl (hd ⟨20, .data⟩ (by simp) rfl)
  have h23 : ((.val (.bool true)) : Vk).ok w0.heap.size (a.tmps.getD 23 undef) w := hI.has 18 _ 23 rfl rfl (hd ⟨18, .guard⟩ (by simp) rfl)
  refine ⟨Loose.wanted_some (d := 23) rfl rfl (show a.tmps.getD 23 undef = .bool true from h23), fun K hK => ?_⟩
  replace h25 : a.tmps.getD 25 undef = (.int .i64 2) := h25
  replace h23 : a.tmps.getD 23 undef = (.bool true) := h23
  refine Loose.value_step (v := .bool true) (w' := w) ?_ (hK _ _ (Below.refl _ _) rfl)
  unfold execOp
  simp only [Act.eval, h25]
  go_simp
set_option maxRecDepth 100000 in
theorem wstep22 (g1 g2 : Nat) (w0 : World) (a0 : Act) (Q : Exit → Act → World → Prop) (q1 : a0.tmps.getD 1 undef = .pointer (some ⟨g1, 0, none⟩)) (q2 : a0.tmps.getD 2 undef = .pointer (some ⟨g2, 0, none⟩)) (k1 : w0.heap[g1]? = some (.cells #[.int .i64 0, .int .i64 0, .int .i64 0] 33 (0, 0))) (k2 : w0.heap[g2]? = some (.cells #[.int .i64 19, .int .i64 0, .int .i64 0] 33 (0, 0))) : ∀ o, wops[22]? = some o → Loose.Step Try.prog wops (Vk.at (wtab g1 g2) w0.heap.size) w0 a0 Q 22 o := by
  intro o ho
  have ho2 : (some ({ dst := some 27, op := Go.Op.pick (Go.Operand.tmp 23) (Go.Operand.tmp 26) (Go.Operand.const (Go.Value.bool false)), type := 4, pos := "outright.go:18", after := #[{ on := 18, ground := Go.Ground.data }, { on := 21, ground := Go.Ground.data }], guard := none }) : Option Oper) = some o := ho
  obtain rfl := Option.some.inj ho2
  clear ho2 ho
  intro listed a w hd hI
  have h23 : ((.val (.bool true)) : Vk).ok w0.heap.size (a.tmps.getD 23 undef) w := hI.has 18 _ 23 rfl rfl (hd ⟨18, .data⟩ (by simp) rfl)
  have h26 : ((.val (.bool true)) : Vk).ok w0.heap.size (a.tmps.getD 26 undef) w := hI.has 21 _ 26 rfl rfl (hd ⟨21, .data⟩ (by simp) rfl)
  refine ⟨Loose.wanted_none rfl _, fun K hK => ?_⟩
  replace h23 : a.tmps.getD 23 undef = (.bool true) := h23
  replace h26 : a.tmps.getD 26 undef = (.bool true) := h26
  refine Loose.value_step (v := .bool true) (w' := w) ?_ (hK _ _ (Below.refl _ _) rfl)
  simp [execOp, go_sem, Act.eval, h23, h26]
set_option maxRecDepth 100000 in
theorem wstep23 (g1 g2 : Nat) (w0 : World) (a0 : Act) (Q : Exit → Act → World → Prop) (q1 : a0.tmps.getD 1 undef = .pointer (some ⟨g1, 0, none⟩)) (q2 : a0.tmps.getD 2 undef = .pointer (some ⟨g2, 0, none⟩)) (k1 : w0.heap[g1]? = some (.cells #[.int .i64 0, .int .i64 0, .int .i64 0] 33 (0, 0))) (k2 : w0.heap[g2]? = some (.cells #[.int .i64 19, .int .i64 0, .int .i64 0] 33 (0, 0))) : ∀ o, wops[23]? = some o → Loose.Step Try.prog wops (Vk.at (wtab g1 g2) w0.heap.size) w0 a0 Q 23 o := by
  intro o ho
  have ho2 : (some ({ dst := some 28, op := Go.Op.move (Go.Operand.tmp 27), type := 4, pos := "outright.go:18", after := #[{ on := 22, ground := Go.Ground.data }, { on := 20, ground := Go.Ground.chain }], guard := none }) : Option Oper) = some o := ho
  obtain rfl := Option.some.inj ho2
  clear ho2 ho
  intro listed a w hd hI
  have h27 : ((.val (.bool true)) : Vk).ok w0.heap.size (a.tmps.getD 27 undef) w := hI.has 22 _ 27 rfl rfl (hd ⟨22, .data⟩ (by simp) rfl)
  refine ⟨Loose.wanted_none rfl _, fun K hK => ?_⟩
  replace h27 : a.tmps.getD 27 undef = (.bool true) := h27
  refine Loose.value_step (v := .bool true) (w' := w) ?_ (hK _ _ (Below.refl _ _) rfl)
  simp [execOp, go_sem, Act.eval, h27]
set_option maxRecDepth 100000 in
theorem wstep24 (g1 g2 : Nat) (w0 : World) (a0 : Act) (Q : Exit → Act → World → Prop) (q1 : a0.tmps.getD 1 undef = .pointer (some ⟨g1, 0, none⟩)) (q2 : a0.tmps.getD 2 undef = .pointer (some ⟨g2, 0, none⟩)) (k1 : w0.heap[g1]? = some (.cells #[.int .i64 0, .int .i64 0, .int .i64 0] 33 (0, 0))) (k2 : w0.heap[g2]? = some (.cells #[.int .i64 19, .int .i64 0, .int .i64 0] 33 (0, 0))) : ∀ o, wops[24]? = some o → Loose.Step Try.prog wops (Vk.at (wtab g1 g2) w0.heap.size) w0 a0 Q 24 o := by
  intro o ho
  have ho2 : (some ({ dst := some 29, op := Go.Op.build 33 #[(0, Go.Operand.const (Go.Value.int Go.IntKind.i64 14))], type := 33, pos := "outright.go:18", after := #[{ on := 23, ground := Go.Ground.guard }], guard := some (23, true) }) : Option Oper) = some o := ho
  obtain rfl := Option.some.inj ho2
  clear ho2 ho
  intro listed a w hd hI
  have h28 : ((.val (.bool true)) : Vk).ok w0.heap.size (a.tmps.getD 28 undef) w := hI.has 23 _ 28 rfl rfl (hd ⟨23, .guard⟩ (by simp) rfl)
  refine ⟨Loose.wanted_some (d := 28) rfl rfl (show a.tmps.getD 28 undef = .bool true from h28), fun K hK => ?_⟩
  replace h28 : a.tmps.getD 28 undef = (.bool true) := h28
  refine Loose.value_step (v := .agg #[.int .i64 14, .int .i64 0, .int .i64 0]) (w' := w) ?_ (hK _ _ (Below.refl _ _) rfl)
  unfold execOp
  simp only [Act.eval]
  go_simp
set_option maxRecDepth 100000 in
theorem wstep25 (g1 g2 : Nat) (w0 : World) (a0 : Act) (Q : Exit → Act → World → Prop) (q1 : a0.tmps.getD 1 undef = .pointer (some ⟨g1, 0, none⟩)) (q2 : a0.tmps.getD 2 undef = .pointer (some ⟨g2, 0, none⟩)) (k1 : w0.heap[g1]? = some (.cells #[.int .i64 0, .int .i64 0, .int .i64 0] 33 (0, 0))) (k2 : w0.heap[g2]? = some (.cells #[.int .i64 19, .int .i64 0, .int .i64 0] 33 (0, 0))) : ∀ o, wops[25]? = some o → Loose.Step Try.prog wops (Vk.at (wtab g1 g2) w0.heap.size) w0 a0 Q 25 o := by
  intro o ho
  have ho2 : (some ({ dst := some 30, op := Go.Op.load 33 (Go.Operand.tmp 2), type := 33, pos := "outright.go:18", after := #[{ on := 23, ground := Go.Ground.guard }], guard := some (23, true) }) : Option Oper) = some o := ho
  obtain rfl := Option.some.inj ho2
  clear ho2 ho
  intro listed a w hd hI
  have h28 : ((.val (.bool true)) : Vk).ok w0.heap.size (a.tmps.getD 28 undef) w := hI.has 23 _ 28 rfl rfl (hd ⟨23, .guard⟩ (by simp) rfl)
  refine ⟨Loose.wanted_some (d := 28) rfl rfl (show a.tmps.getD 28 undef = .bool true from h28), fun K hK => ?_⟩
  replace h28 : a.tmps.getD 28 undef = (.bool true) := h28
  have e1 : a.tmps.getD 2 undef = .pointer (some ⟨g2, 0, none⟩) := (hI.others 2 (Loose.no_dst (by kernel_rfl))).trans q2
  have hk := (hI.below.block g2 (blk_lt k2)).trans k2
  have hc0 : w.cell? ⟨g2, 0, none⟩ = some (.int .i64 19) := (blk_cell hk 0).trans rfl
  have hc1 : w.cell? ⟨g2, 1, none⟩ = some (.int .i64 0) := (blk_cell hk 1).trans rfl
  have hc2 : w.cell? ⟨g2, 2, none⟩ = some (.int .i64 0) := (blk_cell hk 2).trans rfl
  refine Loose.value_step (v := .agg #[.int .i64 19, .int .i64 0, .int .i64 0]) (w' := w) ?_ (hK _ _ (Below.refl _ _) rfl)
  unfold execOp
  simp only [Act.eval, e1]
  go_simp
set_option maxRecDepth 100000 in
theorem wstep26 (g1 g2 : Nat) (w0 : World) (a0 : Act) (Q : Exit → Act → World → Prop) (q1 : a0.tmps.getD 1 undef = .pointer (some ⟨g1, 0, none⟩)) (q2 : a0.tmps.getD 2 undef = .pointer (some ⟨g2, 0, none⟩)) (k1 : w0.heap[g1]? = some (.cells #[.int .i64 0, .int .i64 0, .int .i64 0] 33 (0, 0))) (k2 : w0.heap[g2]? = some (.cells #[.int .i64 19, .int .i64 0, .int .i64 0] 33 (0, 0))) : ∀ o, wops[26]? = some o → Loose.Step Try.prog wops (Vk.at (wtab g1 g2) w0.heap.size) w0 a0 Q 26 o := by
  intro o ho
  have ho2 : (some ({ dst := some 31, op := Go.Op.buildSlice 39 2 #[(0, Go.Operand.tmp 29), (1, Go.Operand.tmp 30)], type := 39, pos := "outright.go:18", after := #[{ on := 24, ground := Go.Ground.data }, { on := 25, ground := Go.Ground.data }, { on := 23, ground := Go.Ground.guard }], guard := some (23, true) }) : Option Oper) = some o := ho
  obtain rfl := Option.some.inj ho2
  clear ho2 ho
  intro listed a w hd hI
  have h29 : ((.val (.agg #[.int .i64 14, .int .i64 0, .int .i64 0])) : Vk).ok w0.heap.size (a.tmps.getD 29 undef) w := hI.has 24 _ 29 rfl rfl (hd ⟨24, .data⟩ (by simp) rfl)
  have h30 : ((.val (.agg #[.int .i64 19, .int .i64 0, .int .i64 0])) : Vk).ok w0.heap.size (a.tmps.getD 30 undef) w := hI.has 25 _ 30 rfl rfl (hd ⟨25, .data⟩ (by simp) rfl)
  have h28 : ((.val (.bool true)) : Vk).ok w0.heap.size (a.tmps.getD 28 undef) w := hI.has 23 _ 28 rfl rfl (hd ⟨23, .guard⟩ (by simp) rfl)
  refine ⟨Loose.wanted_some (d := 28) rfl rfl (show a.tmps.getD 28 undef = .bool true from h28), fun K hK => ?_⟩
  replace h29 : a.tmps.getD 29 undef = (.agg #[.int .i64 14, .int .i64 0, .int .i64 0]) := h29
  replace h30 : a.tmps.getD 30 undef = (.agg #[.int .i64 19, .int .i64 0, .int .i64 0]) := h30
  replace h28 : a.tmps.getD 28 undef = (.bool true) := h28
  refine Loose.value_step (v := .slice (some ⟨w.heap.size, 0, none⟩) 2 2) (w' := w.alloc (.cells #[.int .i64 14, .int .i64 0, .int .i64 0, .int .i64 19, .int .i64 0, .int .i64 0] 33)) ?_ (hK _ _ (below_alloc (Below.refl _ _) _) (R33_new w w0.heap.size hI.below.size [⟨14, 0, 0⟩, ⟨19, 0, 0⟩] (by decide)))
  unfold execOp
  simp only [Act.eval, List.map_toArray, List.map_cons, List.map_nil, h29, h30]
  go_simp
set_option maxRecDepth 100000 in
theorem wstep27 (g1 g2 : Nat) (w0 : World) (a0 : Act) (Q : Exit → Act → World → Prop) (q1 : a0.tmps.getD 1 undef = .pointer (some ⟨g1, 0, none⟩)) (q2 : a0.tmps.getD 2 undef = .pointer (some ⟨g2, 0, none⟩)) (k1 : w0.heap[g1]? = some (.cells #[.int .i64 0, .int .i64 0, .int .i64 0] 33 (0, 0))) (k2 : w0.heap[g2]? = some (.cells #[.int .i64 19, .int .i64 0, .int .i64 0] 33 (0, 0))) : ∀ o, wops[27]? = some o → Loose.Step Try.prog wops (Vk.at (wtab g1 g2) w0.heap.size) w0 a0 Q 27 o := by
  intro o ho
  have ho2 : (some ({ dst := some 32, op := Go.Op.call { callee := Go.Callee.value (Go.Operand.func 20), args := #[Go.Operand.const (Go.Value.int Go.IntKind.i64 1), Go.Operand.tmp 31], argTypes := #[3, 39] }, type := 28, pos := "outright.go:18", after := #[{ on := 26, ground := Go.Ground.data }, { on := 23, ground := Go.Ground.chain }, { on := 23, ground := Go.Ground.guard }], guard := some (23, true) }) : Option Oper) = some o := ho
  obtain rfl := Option.some.inj ho2
  clear ho2 ho
  intro listed a w hd hI
  have h31 : ((.ins [⟨14, 0, 0⟩, ⟨19, 0, 0⟩]) : Vk).ok w0.heap.size (a.tmps.getD 31 undef) w := hI.has 26 _ 31 rfl rfl (hd ⟨26, .data⟩ (by simp) rfl)
  have h28 : ((.val (.bool true)) : Vk).ok w0.heap.size (a.tmps.getD 28 undef) w := hI.has 23 _ 28 rfl rfl (hd ⟨23, .guard⟩ (by simp) rfl)
  refine ⟨Loose.wanted_some (d := 28) rfl rfl (show a.tmps.getD 28 undef = .bool true from h28), fun K hK => ?_⟩
  replace h28 : a.tmps.getD 28 undef = (.bool true) := h28
  have hR : Kd.R k33 33 w w0.heap.size (fun _ => True) (a.tmps.getD 31 undef) [⟨14, 0, 0⟩, ⟨19, 0, 0⟩] := h31
  obtain ⟨A, c, e1⟩ := Kd.R_slice hR
  rw [e1] at hR
  replace e1 : a.tmps.getD 31 undef = .slice A 2 c := e1
  refine Loose.call_step Try.func20 (by kernel_rfl) rfl #[.int .i64 1, .slice A 2 c] rfl (by simp [Act.eval, e1]) ((tallowlaw20_one.calls 1 _ A c [⟨14, 0, 0⟩, ⟨19, 0, 0⟩] [⟨0, 1, [], [], [⟨14, 0, 0⟩, ⟨19, 0, 0⟩]⟩] w (Kd.R_V (Kd.R_tight rfl hR)) rfl).mono ?_)
  rintro e w' ⟨v0, rfl, hN, hb⟩
  obtain ⟨A', c', rfl, hle, hC⟩ := Kd.N_reads hN
  exact ⟨_, rfl, hK _ w' hb ⟨A', c', rfl, hle, hC⟩⟩
set_option maxRecDepth 100000 in
theorem wstep28 (g1 g2 : Nat) (w0 : World) (a0 : Act) (Q : Exit → Act → World → Prop) (q1 : a0.tmps.getD 1 undef = .pointer (some ⟨g1, 0, none⟩)) (q2 : a0.tmps.getD 2 undef = .pointer (some ⟨g2, 0, none⟩)) (k1 : w0.heap[g1]? = some (.cells #[.int .i64 0, .int .i64 0, .int .i64 0] 33 (0, 0))) (k2 : w0.heap[g2]? = some (.cells #[.int .i64 19, .int .i64 0, .int .i64 0] 33 (0, 0))) : ∀ o, wops[28]? = some o → Loose.Step Try.prog wops (Vk.at (wtab g1 g2) w0.heap.size) w0 a0 Q 28 o := by
  intro o ho
  have ho2 : (some ({ dst := some 33, op := Go.Op.call { callee := Go.Callee.value (Go.Operand.func 15), args := #[Go.Operand.tmp 32], argTypes := #[28] }, type := 29, pos := "outright.go:18", after := #[{ on := 27, ground := Go.Ground.data }, { on := 27, ground := Go.Ground.chain }, { on := 23, ground := Go.Ground.guard }], guard := some (23, true) }) : Option Oper) = some o := ho
  obtain rfl := Option.some.inj ho2
  clear ho2 ho
  intro listed a w hd hI
  have h32 : ((.prg [⟨0, 1, [], [], [⟨14, 0, 0⟩, ⟨19, 0, 0⟩]⟩]) : Vk).ok w0.heap.size (a.tmps.getD 32 undef) w := hI.has 27 _ 32 rfl rfl (hd ⟨27, .data⟩ (by simp) rfl)
  have h28 : ((.val (.bool true)) : Vk).ok w0.heap.size (a.tmps.getD 28 undef) w := hI.has 23 _ 28 rfl rfl (hd ⟨23, .guard⟩ (by simp) rfl)
  refine ⟨Loose.wanted_some (d := 28) rfl rfl (show a.tmps.getD 28 undef = .bool true from h28), fun K hK => ?_⟩
  replace h28 : a.tmps.getD 28 undef = (.bool true) := h28
  obtain ⟨A, c, e1, hle, hC⟩ := h32
  replace e1 : a.tmps.getD 32 undef = .agg #[.slice A 1 c] := e1
  refine Loose.call_step Try.func15 (by kernel_rfl) rfl #[.agg #[.slice A 1 c]] rfl (by simp [Act.eval, e1]) ((code_Check.calls 40 A c [⟨0, 1, [], [], [⟨14, 0, 0⟩, ⟨19, 0, 0⟩]⟩] 2 w hC hle (by decide +kernel)).mono ?_)
  rintro e w' ⟨rfl, hb⟩
  exact ⟨_, rfl, hK _ w' hb rfl⟩
set_option maxRecDepth 100000 in
theorem wstep29 (g1 g2 : Nat) (w0 : World) (a0 : Act) (Q : Exit → Act → World → Prop) (q1 : a0.tmps.getD 1 undef = .pointer (some ⟨g1, 0, none⟩)) (q2 : a0.tmps.getD 2 undef = .pointer (some ⟨g2, 0, none⟩)) (k1 : w0.heap[g1]? = some (.cells #[.int .i64 0, .int .i64 0, .int .i64 0] 33 (0, 0))) (k2 : w0.heap[g2]? = some (.cells #[.int .i64 19, .int .i64 0, .int .i64 0] 33 (0, 0))) : ∀ o, wops[29]? = some o → Loose.Step Try.prog wops (Vk.at (wtab g1 g2) w0.heap.size) w0 a0 Q 29 o := by
  intro o ho
  have ho2 : (some ({ dst := some 34, op := Go.Op.binOp Go.BinOp.eql 29 (Go.Operand.tmp 33) (Go.Operand.const (Go.Value.int Go.IntKind.i64 2)) 29, type := 4, pos := "outright.go:18", after := #[{ on := 28, ground := Go.Ground.data }, { on := 23, ground := Go.Ground.guard }], guard := some (23, true) }) : Option Oper) = some o := ho
  obtain rfl := Option.some.inj ho2
  clear ho2 ho
  intro listed a w hd hI
  have h33 : ((.val (.int .i64 2)) : Vk).ok w0.heap.size (a.tmps.getD 33 undef) w := hI.has 28 _ 33 rfl rfl (hd ⟨28, .data⟩ (by simp) rfl)
  have h28 : ((.val (.bool true)) : Vk).ok w0.heap.size (a.tmps.getD 28 undef) w := hI.has 23 _ 28 rfl rfl (hd ⟨23, .guard⟩ (by simp) rfl)
  refine ⟨Loose.wanted_some (d := 28) rfl rfl (show a.tmps.getD 28 undef = .bool true from h28), fun K hK => ?_⟩
  replace h33 : a.tmps.getD 33 undef = (.int .i64 2) := h33
  replace h28 : a.tmps.getD 28 undef = (.bool true) := h28
  refine Loose.value_step (v := .bool true) (w' := w) ?_ (hK _ _ (Below.refl _ _) rfl)
  unfold execOp
  simp only [Act.eval, h33]
  go_simp
set_option maxRecDepth 100000 in
theorem wstep30 (g1 g2 : Nat) (w0 : World) (a0 : Act) (Q : Exit → Act → World → Prop) (q1 : a0.tmps.getD 1 undef = .pointer (some ⟨g1, 0, none⟩)) (q2 : a0.tmps.getD 2 undef = .pointer (some ⟨g2, 0, none⟩)) (k1 : w0.heap[g1]? = some (.cells #[.int .i64 0, .int .i64 0, .int .i64 0] 33 (0, 0))) (k2 : w0.heap[g2]? = some (.cells #[.int .i64 19, .int .i64 0, .int .i64 0] 33 (0, 0))) : ∀ o, wops[30]? = some o → Loose.Step Try.prog wops (Vk.at (wtab g1 g2) w0.heap.size) w0 a0 Q 30 o := by
  intro o ho
  have ho2 : (some ({ dst := some 35, op := Go.Op.pick (Go.Operand.tmp 28) (Go.Operand.tmp 34) (Go.Operand.const (Go.Value.bool false)), type := 4, pos := "outright.go:18", after := #[{ on := 23, ground := Go.Ground.data }, { on := 29, ground := Go.Ground.data }], guard := none }) : Option Oper) = some o := ho
  obtain rfl := Option.some.inj ho2
  clear ho2 ho
  intro listed a w hd hI
  have h28 : ((.val (.bool true)) : Vk).ok w0.heap.size (a.tmps.getD 28 undef) w := hI.has 23 _ 28 rfl rfl (hd ⟨23, .data⟩ (by simp) rfl)
  have h34 : ((.val (.bool true)) : Vk).ok w0.heap.size (a.tmps.getD 34 undef) w := hI.has 29 _ 34 rfl rfl (hd ⟨29, .data⟩ (by simp) rfl)
  refine ⟨Loose.wanted_none rfl _, fun K hK => ?_⟩
  replace h28 : a.tmps.getD 28 undef = (.bool true) := h28
  replace h34 : a.tmps.getD 34 undef = (.bool true) := h34
  refine Loose.value_step (v := .bool true) (w' := w) ?_ (hK _ _ (Below.refl _ _) rfl)
  simp [execOp, go_sem, Act.eval, h28, h34]
set_option maxRecDepth 100000 in
theorem wstep31 (g1 g2 : Nat) (w0 : World) (a0 : Act) (Q : Exit → Act → World → Prop) (q1 : a0.tmps.getD 1 undef = .pointer (some ⟨g1, 0, none⟩)) (q2 : a0.tmps.getD 2 undef = .pointer (some ⟨g2, 0, none⟩)) (k1 : w0.heap[g1]? = some (.cells #[.int .i64 0, .int .i64 0, .int .i64 0] 33 (0, 0))) (k2 : w0.heap[g2]? = some (.cells #[.int .i64 19, .int .i64 0, .int .i64 0] 33 (0, 0))) : ∀ o, wops[31]? = some o → Loose.Step Try.prog wops (Vk.at (wtab g1 g2) w0.heap.size) w0 a0 Q 31 o := by
  intro o ho
  have ho2 : (some ({ dst := some 36, op := Go.Op.move (Go.Operand.tmp 35), type := 4, pos := "outright.go:18", after := #[{ on := 30, ground := Go.Ground.data }, { on := 28, ground := Go.Ground.chain }], guard := none }) : Option Oper) = some o := ho
  obtain rfl := Option.some.inj ho2
  clear ho2 ho
  intro listed a w hd hI
  have h35 : ((.val (.bool true)) : Vk).ok w0.heap.size (a.tmps.getD 35 undef) w := hI.has 30 _ 35 rfl rfl (hd ⟨30, .data⟩ (by simp) rfl)
  refine ⟨Loose.wanted_none rfl _, fun K hK => ?_⟩
  replace h35 : a.tmps.getD 35 undef = (.bool true) := h35
  refine Loose.value_step (v := .bool true) (w' := w) ?_ (hK _ _ (Below.refl _ _) rfl)
  simp [execOp, go_sem, Act.eval, h35]
set_option maxRecDepth 100000 in
theorem wstep32 (g1 g2 : Nat) (w0 : World) (a0 : Act) (Q : Exit → Act → World → Prop) (q1 : a0.tmps.getD 1 undef = .pointer (some ⟨g1, 0, none⟩)) (q2 : a0.tmps.getD 2 undef = .pointer (some ⟨g2, 0, none⟩)) (k1 : w0.heap[g1]? = some (.cells #[.int .i64 0, .int .i64 0, .int .i64 0] 33 (0, 0))) (k2 : w0.heap[g2]? = some (.cells #[.int .i64 19, .int .i64 0, .int .i64 0] 33 (0, 0))) : ∀ o, wops[32]? = some o → Loose.Step Try.prog wops (Vk.at (wtab g1 g2) w0.heap.size) w0 a0 Q 32 o := by
  intro o ho
  have ho2 : (some ({ dst := some 37, op := Go.Op.load 33 (Go.Operand.tmp 2), type := 33, pos := "outright.go:18", after := #[{ on := 31, ground := Go.Ground.guard }], guard := some (31, true) }) : Option Oper) = some o := ho
  obtain rfl := Option.some.inj ho2
  clear ho2 ho
  intro listed a w hd hI
  have h36 : ((.val (.bool true)) : Vk).ok w0.heap.size (a.tmps.getD 36 undef) w := hI.has 31 _ 36 rfl rfl (hd ⟨31, .guard⟩ (by simp) rfl)
  refine ⟨Loose.wanted_some (d := 36) rfl rfl (show a.tmps.getD 36 undef = .bool true from h36), fun K hK => ?_⟩
  replace h36 : a.tmps.getD 36 undef = (.bool true) := h36
  have e1 : a.tmps.getD 2 undef = .pointer (some ⟨g2, 0, none⟩) := (hI.others 2 (Loose.no_dst (by kernel_rfl))).trans q2
  have hk := (hI.below.block g2 (blk_lt k2)).trans k2
  have hc0 : w.cell? ⟨g2, 0, none⟩ = some (.int .i64 19) := (blk_cell hk 0).trans rfl
  have hc1 : w.cell? ⟨g2, 1, none⟩ = some (.int .i64 0) := (blk_cell hk 1).trans rfl
  have hc2 : w.cell? ⟨g2, 2, none⟩ = some (.int .i64 0) := (blk_cell hk 2).trans rfl
  refine Loose.value_step (v := .agg #[.int .i64 19, .int .i64 0, .int .i64 0]) (w' := w) ?_ (hK _ _ (Below.refl _ _) rfl)
  unfold execOp
  simp only [Act.eval, e1]
  go_simp
set_option maxRecDepth 100000 in
theorem wstep33 (g1 g2 : Nat) (w0 : World) (a0 : Act) (Q : Exit → Act → World → Prop) (q1 : a0.tmps.getD 1 undef = .pointer (some ⟨g1, 0, none⟩)) (q2 : a0.tmps.getD 2 undef = .pointer (some ⟨g2, 0, none⟩)) (k1 : w0.heap[g1]? = some (.cells #[.int .i64 0, .int .i64 0, .int .i64 0] 33 (0, 0))) (k2 : w0.heap[g2]? = some (.cells #[.int .i64 19, .int .i64 0, .int .i64 0] 33 (0, 0))) : ∀ o, wops[33]? = some o → Loose.Step Try.prog wops (Vk.at (wtab g1 g2) w0.heap.size) w0 a0 Q 33 o := by
  intro o ho
  have ho2 : (some ({ dst := some 38, op := Go.Op.buildSlice 39 1 #[(0, Go.Operand.tmp 37)], type := 39, pos := "outright.go:18", after := #[{ on := 32, ground := Go.Ground.data }, { on := 31, ground := Go.Ground.guard }], guard := some (31, true) }) : Option Oper) = some o := ho
  obtain rfl := Option.some.inj ho2
  clear ho2 ho
  intro listed a w hd hI
  have h37 : ((.val (.agg #[.int .i64 19, .int .i64 0, .int .i64 0])) : Vk).ok w0.heap.size (a.tmps.getD 37 undef) w := hI.has 32 _ 37 rfl rfl (hd ⟨32, .data⟩ (by simp) rfl)
  have h36 : ((.val (.bool true)) : Vk).ok w0.heap.size (a.tmps.getD 36 undef) w := hI.has 31 _ 36 rfl rfl (hd ⟨31, .guard⟩ (by simp) rfl)
  refine ⟨Loose.wanted_some (d := 36) rfl rfl (show a.tmps.getD 36 undef = .bool true from h36), fun K hK => ?_⟩
  replace h37 : a.tmps.getD 37 undef = (.agg #[.int .i64 19, .int .i64 0, .int .i64 0]) := h37
  replace h36 : a.tmps.getD 36 undef = (.bool true) := h36
  refine Loose.value_step (v := .slice (some ⟨w.heap.size, 0, none⟩) 1 1) (w' := w.alloc (.cells #[.int .i64 19, .int .i64 0, .int .i64 0] 33)) ?_ (hK _ _ (below_alloc (Below.refl _ _) _) (R33_new w w0.heap.size hI.below.size [⟨19, 0, 0⟩] (by decide)))
  unfold execOp
  simp only [Act.eval, List.map_toArray, List.map_cons, List.map_nil, h37]
  go_simp
set_option maxRecDepth 100000 in
theorem wstep34 (g1 g2 : Nat) (w0 : World) (a0 : Act) (Q : Exit → Act → World → Prop) (q1 : a0.tmps.getD 1 undef = .pointer (some ⟨g1, 0, none⟩)) (q2 : a0.tmps.getD 2 undef = .pointer (some ⟨g2, 0, none⟩)) (k1 : w0.heap[g1]? = some (.cells #[.int .i64 0, .int .i64 0, .int .i64 0] 33 (0, 0))) (k2 : w0.heap[g2]? = some (.cells #[.int .i64 19, .int .i64 0, .int .i64 0] 33 (0, 0))) : ∀ o, wops[34]? = some o → Loose.Step Try.prog wops (Vk.at (wtab g1 g2) w0.heap.size) w0 a0 Q 34 o := by
  intro o ho
  have ho2 : (some ({ dst := some 39, op := Go.Op.call { callee := Go.Callee.value (Go.Operand.func 20), args := #[Go.Operand.const (Go.Value.int Go.IntKind.i64 251), Go.Operand.tmp 38], argTypes := #[3, 39] }, type := 28, pos := "outright.go:18", after := #[{ on := 33, ground := Go.Ground.data }, { on := 31, ground := Go.Ground.chain }, { on := 31, ground := Go.Ground.guard }], guard := some (31, true) }) : Option Oper) = some o := ho
  obtain rfl := Option.some.inj ho2
  clear ho2 ho
  intro listed a w hd hI
  have h38 : ((.ins [⟨19, 0, 0⟩]) : Vk).ok w0.heap.size (a.tmps.getD 38 undef) w := hI.has 33 _ 38 rfl rfl (hd ⟨33, .data⟩ (by simp) rfl)
  have h36 : ((.val (.bool true)) : Vk).ok w0.heap.size (a.tmps.getD 36 undef) w := hI.has 31 _ 36 rfl rfl (hd ⟨31, .guard⟩ (by simp) rfl)
  refine ⟨Loose.wanted_some (d := 36) rfl rfl (show a.tmps.getD 36 undef = .bool true from h36), fun K hK => ?_⟩
  replace h36 : a.tmps.getD 36 undef = (.bool true) := h36
  have hR : Kd.R k33 33 w w0.heap.size (fun _ => True) (a.tmps.getD 38 undef) [⟨19, 0, 0⟩] := h38
  obtain ⟨A, c, e1⟩ := Kd.R_slice hR
  rw [e1] at hR
  replace e1 : a.tmps.getD 38 undef = .slice A 1 c := e1
  refine Loose.call_step Try.func20 (by kernel_rfl) rfl #[.int .i64 251, .slice A 1 c] rfl (by simp [Act.eval, e1]) ((tallowlaw20_one.calls 251 _ A c [⟨19, 0, 0⟩] [⟨0, 251, [], [], [⟨19, 0, 0⟩]⟩] w (Kd.R_V (Kd.R_tight rfl hR)) rfl).mono ?_)
  rintro e w' ⟨v0, rfl, hN, hb⟩
  obtain ⟨A', c', rfl, hle, hC⟩ := Kd.N_reads hN
  exact ⟨_, rfl, hK _ w' hb ⟨A', c', rfl, hle, hC⟩⟩
set_option maxRecDepth 100000 in
theorem wstep35 (g1 g2 : Nat) (w0 : World) (a0 : Act) (Q : Exit → Act → World → Prop) (q1 : a0.tmps.getD 1 undef = .pointer (some ⟨g1, 0, none⟩)) (q2 : a0.tmps.getD 2 undef = .pointer (some ⟨g2, 0, none⟩)) (k1 : w0.heap[g1]? = some (.cells #[.int .i64 0, .int .i64 0, .int .i64 0] 33 (0, 0))) (k2 : w0.heap[g2]? = some (.cells #[.int .i64 19, .int .i64 0, .int .i64 0] 33 (0, 0))) : ∀ o, wops[35]? = some o → Loose.Step Try.prog wops (Vk.at (wtab g1 g2) w0.heap.size) w0 a0 Q 35 o := by
  intro o ho
  have ho2 : (some ({ dst := some 40, op := Go.Op.call { callee := Go.Callee.value (Go.Operand.func 15), args := #[Go.Operand.tmp 39], argTypes := #[28] }, type := 29, pos := "outright.go:18", after := #[{ on := 34, ground := Go.Ground.data }, { on := 34, ground := Go.Ground.chain }, { on := 31, ground := Go.Ground.guard }], guard := some (31, true) }) : Option Oper) = some o := ho
  obtain rfl := Option.some.inj ho2
  clear ho2 ho
  intro listed a w hd hI
  have h39 : ((.prg [⟨0, 251, [], [], [⟨19, 0, 0⟩]⟩]) : Vk).ok w0.heap.size (a.tmps.getD 39 undef) w := hI.has 34 _ 39 rfl rfl (hd ⟨34, .data⟩ (by simp) rfl)
  have h36 : ((.val (.bool true)) : Vk).ok w0.heap.size (a.tmps.getD 36 undef) w := hI.has 31 _ 36 rfl rfl (hd ⟨31, .guard⟩ (by simp) rfl)
  refine ⟨Loose.wanted_some (d := 36) rfl rfl (show a.tmps.getD 36 undef = .bool true from h36), fun K hK => ?_⟩
  replace h36 : a.tmps.getD 36 undef = (.bool true) := h36
  obtain ⟨A, c, e1, hle, hC⟩ := h39
  replace e1 : a.tmps.getD 39 undef = .agg #[.slice A 1 c] := e1
  refine Loose.call_step Try.func15 (by kernel_rfl) rfl #[.agg #[.slice A 1 c]] rfl (by simp [Act.eval, e1]) ((code_Check.calls 40 A c [⟨0, 251, [], [], [⟨19, 0, 0⟩]⟩] 3 w hC hle (by decide +kernel)).mono ?_)
  rintro e w' ⟨rfl, hb⟩
  exact ⟨_, rfl, hK _ w' hb rfl⟩
set_option maxRecDepth 100000 in
theorem wstep36 (g1 g2 : Nat) (w0 : World) (a0 : Act) (Q : Exit → Act → World → Prop) (q1 : a0.tmps.getD 1 undef = .pointer (some ⟨g1, 0, none⟩)) (q2 : a0.tmps.getD 2 undef = .pointer (some ⟨g2, 0, none⟩)) (k1 : w0.heap[g1]? = some (.cells #[.int .i64 0, .int .i64 0, .int .i64 0] 33 (0, 0))) (k2 : w0.heap[g2]? = some (.cells #[.int .i64 19, .int .i64 0, .int .i64 0] 33 (0, 0))) : ∀ o, wops[36]? = some o → Loose.Step Try.prog wops (Vk.at (wtab g1 g2) w0.heap.size) w0 a0 Q 36 o := by
  intro o ho
  have ho2 : (some ({ dst := some 41, op := Go.Op.binOp Go.BinOp.eql 29 (Go.Operand.tmp 40) (Go.Operand.const (Go.Value.int Go.IntKind.i64 3)) 29, type := 4, pos := "outright.go:18", after := #[{ on := 35, ground := Go.Ground.data }, { on := 31, ground := Go.Ground.guard }], guard := some (31, true) }) : Option Oper) = some o := ho
  obtain rfl := Option.some.inj ho2
  clear ho2 ho
  intro listed a w hd hI
  have h40 : ((.val (.int .i64 3)) : Vk).ok w0.heap.size (a.tmps.getD 40 undef) w := hI.has 35 _ 40 rfl rfl (hd ⟨35, .data⟩ (by simp) rfl)
  have h36 : ((.val (.bool true)) : Vk).ok w0.heap.size (a.tmps.getD 36 undef) w := hI.has 31 _ 36 rfl rfl (hd ⟨31, .guard⟩ (by simp) rfl)
  refine ⟨Loose.wanted_some (d := 36) rfl rfl (show a.tmps.getD 36 undef = .bool true from h36), fun K hK => ?_⟩
  replace h40 : a.tmps.getD 40 undef = (.int .i64 3) := h40
  replace h36 : a.tmps.getD 36 undef = (.bool true) := h36
  refine Loose.value_step (v := .bool true) (w' := w) ?_ (hK _ _ (Below.refl _ _) rfl)
  unfold execOp
  simp only [Act.eval, h40]
  go_simp
set_option maxRecDepth 100000 in
theorem wstep37 (g1 g2 : Nat) (w0 : World) (a0 : Act) (Q : Exit → Act → World → Prop) (q1 : a0.tmps.getD 1 undef = .pointer (some ⟨g1, 0, none⟩)) (q2 : a0.tmps.getD 2 undef = .pointer (some ⟨g2, 0, none⟩)) (k1 : w0.heap[g1]? = some (.cells #[.int .i64 0, .int .i64 0, .int .i64 0] 33 (0, 0))) (k2 : w0.heap[g2]? = some (.cells #[.int .i64 19, .int .i64 0, .int .i64 0] 33 (0, 0))) : ∀ o, wops[37]? = some o → Loose.Step Try.prog wops (Vk.at (wtab g1 g2) w0.heap.size) w0 a0 Q 37 o := by
  intro o ho
  have ho2 : (some ({ dst := some 42, op := Go.Op.pick (Go.Operand.tmp 36) (Go.Operand.tmp 41) (Go.Operand.const (Go.Value.bool false)), type := 4, pos := "outright.go:18", after := #[{ on := 31, ground := Go.Ground.data }, { on := 36, ground := Go.Ground.data }], guard := none }) : Option Oper) = some o := ho
  obtain rfl := Option.some.inj ho2
  clear ho2 ho
  intro listed a w hd hI
  have h36 : ((.val (.bool true)) : Vk).ok w0.heap.size (a.tmps.getD 36 undef) w := hI.has 31 _ 36 rfl rfl (hd ⟨31, .data⟩ (by simp) rfl)
  have h41 : ((.val (.bool true)) : Vk).ok w0.heap.size (a.tmps.getD 41 undef) w := hI.has 36 _ 41 rfl rfl (hd ⟨36, .data⟩ (by simp) rfl)
  refine ⟨Loose.wanted_none rfl _, fun K hK => ?_⟩
  replace h36 : a.tmps.getD 36 undef = (.bool true) := h36
  replace h41 : a.tmps.getD 41 undef = (.bool true) := h41
  refine Loose.value_step (v := .bool true) (w' := w) ?_ (hK _ _ (Below.refl _ _) rfl)
  simp [execOp, go_sem, Act.eval, h36, h41]
set_option maxRecDepth 100000 in
theorem wstep38 (g1 g2 : Nat) (w0 : World) (a0 : Act) (Q : Exit → Act → World → Prop) (q1 : a0.tmps.getD 1 undef = .pointer (some ⟨g1, 0, none⟩)) (q2 : a0.tmps.getD 2 undef = .pointer (some ⟨g2, 0, none⟩)) (k1 : w0.heap[g1]? = some (.cells #[.int .i64 0, .int .i64 0, .int .i64 0] 33 (0, 0))) (k2 : w0.heap[g2]? = some (.cells #[.int .i64 19, .int .i64 0, .int .i64 0] 33 (0, 0))) : ∀ o, wops[38]? = some o → Loose.Step Try.prog wops (Vk.at (wtab g1 g2) w0.heap.size) w0 a0 Q 38 o := by
  intro o ho
  have ho2 : (some ({ dst := some 43, op := Go.Op.move (Go.Operand.tmp 42), type := 4, pos := "outright.go:18", after := #[{ on := 37, ground := Go.Ground.data }, { on := 35, ground := Go.Ground.chain }], guard := none }) : Option Oper) = some o := ho
  obtain rfl := Option.some.inj ho2
  clear ho2 ho
  intro listed a w hd hI
  have h42 : ((.val (.bool true)) : Vk).ok w0.heap.size (a.tmps.getD 42 undef) w := hI.has 37 _ 42 rfl rfl (hd ⟨37, .data⟩ (by simp) rfl)
  refine ⟨Loose.wanted_none rfl _, fun K hK => ?_⟩
  replace h42 : a.tmps.getD 42 undef = (.bool true) := h42
  refine Loose.value_step (v := .bool true) (w' := w) ?_ (hK _ _ (Below.refl _ _) rfl)
  simp [execOp, go_sem, Act.eval, h42]
set_option maxRecDepth 100000 in
theorem wstep39 (g1 g2 : Nat) (w0 : World) (a0 : Act) (Q : Exit → Act → World → Prop) (q1 : a0.tmps.getD 1 undef = .pointer (some ⟨g1, 0, none⟩)) (q2 : a0.tmps.getD 2 undef = .pointer (some ⟨g2, 0, none⟩)) (k1 : w0.heap[g1]? = some (.cells #[.int .i64 0, .int .i64 0, .int .i64 0] 33 (0, 0))) (k2 : w0.heap[g2]? = some (.cells #[.int .i64 19, .int .i64 0, .int .i64 0] 33 (0, 0))) : ∀ o, wops[39]? = some o → Loose.Step Try.prog wops (Vk.at (wtab g1 g2) w0.heap.size) w0 a0 Q 39 o := by
  intro o ho
  have ho2 : (some ({ dst := some 44, op := Go.Op.load 33 (Go.Operand.tmp 2), type := 33, pos := "outright.go:18", after := #[{ on := 38, ground := Go.Ground.guard }], guard := some (38, true) }) : Option Oper) = some o := ho
  obtain rfl := Option.some.inj ho2
  clear ho2 ho
  intro listed a w hd hI
  have h43 : ((.val (.bool true)) : Vk).ok w0.heap.size (a.tmps.getD 43 undef) w := hI.has 38 _ 43 rfl rfl (hd ⟨38, .guard⟩ (by simp) rfl)
  refine ⟨Loose.wanted_some (d := 43) rfl rfl (show a.tmps.getD 43 undef = .bool true from h43), fun K hK => ?_⟩
  replace h43 : a.tmps.getD 43 undef = (.bool true) := h43
  have e1 : a.tmps.getD 2 undef = .pointer (some ⟨g2, 0, none⟩) := (hI.others 2 (Loose.no_dst (by kernel_rfl))).trans q2
  have hk := (hI.below.block g2 (blk_lt k2)).trans k2
  have hc0 : w.cell? ⟨g2, 0, none⟩ = some (.int .i64 19) := (blk_cell hk 0).trans rfl
  have hc1 : w.cell? ⟨g2, 1, none⟩ = some (.int .i64 0) := (blk_cell hk 1).trans rfl
  have hc2 : w.cell? ⟨g2, 2, none⟩ = some (.int .i64 0) := (blk_cell hk 2).trans rfl
  refine Loose.value_step (v := .agg #[.int .i64 19, .int .i64 0, .int .i64 0]) (w' := w) ?_ (hK _ _ (Below.refl _ _) rfl)
  unfold execOp
  simp only [Act.eval, e1]
  go_simp
set_option maxRecDepth 100000 in
theorem wstep40 (g1 g2 : Nat) (w0 : World) (a0 : Act) (Q : Exit → Act → World → Prop) (q1 : a0.tmps.getD 1 undef = .pointer (some ⟨g1, 0, none⟩)) (q2 : a0.tmps.getD 2 undef = .pointer (some ⟨g2, 0, none⟩)) (k1 : w0.heap[g1]? = some (.cells #[.int .i64 0, .int .i64 0, .int .i64 0] 33 (0, 0))) (k2 : w0.heap[g2]? = some (.cells #[.int .i64 19, .int .i64 0, .int .i64 0] 33 (0, 0))) : ∀ o, wops[40]? = some o → Loose.Step Try.prog wops (Vk.at (wtab g1 g2) w0.heap.size) w0 a0 Q 40 o := by
  intro o ho
  have ho2 : (some ({ dst := some 45, op := Go.Op.buildSlice 39 1 #[(0, Go.Operand.tmp 44)], type := 39, pos := "outright.go:18", after := #[{ on := 39, ground := Go.Ground.data }, { on := 38, ground := Go.Ground.guard }], guard := some (38, true) }) : Option Oper) = some o := ho
  obtain rfl := Option.some.inj ho2
  clear ho2 ho
  intro listed a w hd hI
  have h44 : ((.val (.agg #[.int .i64 19, .int .i64 0, .int .i64 0])) : Vk).ok w0.heap.size (a.tmps.getD 44 undef) w := hI.has 39 _ 44 rfl rfl (hd ⟨39, .data⟩ (by simp) rfl)
  have h43 : ((.val (.bool true)) : Vk).ok w0.heap.size (a.tmps.getD 43 undef) w := hI.has 38 _ 43 rfl rfl (hd ⟨38, .guard⟩ (by simp) rfl)
  refine ⟨Loose.wanted_some (d := 43) rfl rfl (show a.tmps.getD 43 undef = .bool true from h43), fun K hK => ?_⟩
  replace h44 : a.tmps.getD 44 undef = (.agg #[.int .i64 19, .int .i64 0, .int .i64 0]) := h44
  replace h43 : a.tmps.getD 43 undef = (.bool true) := h43
  refine Loose.value_step (v := .slice (some ⟨w.heap.size, 0, none⟩) 1 1) (w' := w.alloc (.cells #[.int .i64 19, .int .i64 0, .int .i64 0] 33)) ?_ (hK _ _ (below_alloc (Below.refl _ _) _) (R33_new w w0.heap.size hI.below.size [⟨19, 0, 0⟩] (by decide)))
  unfold execOp
  simp only [Act.eval, List.map_toArray, List.map_cons, List.map_nil, h44]
  go_simp
set_option maxRecDepth 100000 in
theorem wstep41 (g1 g2 : Nat) (w0 : World) (a0 : Act) (Q : Exit → Act → World → Prop) (q1 : a0.tmps.getD 1 undef = .pointer (some ⟨g1, 0, none⟩)) (q2 : a0.tmps.getD 2 undef = .pointer (some ⟨g2, 0, none⟩)) (k1 : w0.heap[g1]? = some (.cells #[.int .i64 0, .int .i64 0, .int .i64 0] 33 (0, 0))) (k2 : w0.heap[g2]? = some (.cells #[.int .i64 19, .int .i64 0, .int .i64 0] 33 (0, 0))) : ∀ o, wops[41]? = some o → Loose.Step Try.prog wops (Vk.at (wtab g1 g2) w0.heap.size) w0 a0 Q 41 o := by
  intro o ho
  have ho2 : (some ({ dst := some 46, op := Go.Op.call { callee := Go.Callee.value (Go.Operand.func 20), args := #[Go.Operand.const (Go.Value.int Go.IntKind.i64 1), Go.Operand.tmp 45], argTypes := #[3, 39] }, type := 28, pos := "outright.go:18", after := #[{ on := 40, ground := Go.Ground.data }, { on := 38, ground := Go.Ground.chain }, { on := 38, ground := Go.Ground.guard }], guard := some (38, true) }) : Option Oper) = some o := ho
  obtain rfl := Option.some.inj ho2
  clear ho2 ho
  intro listed a w hd hI
  have h45 : ((.ins [⟨19, 0, 0⟩]) : Vk).ok w0.heap.size (a.tmps.getD 45 undef) w := hI.has 40 _ 45 rfl rfl (hd ⟨40, .data⟩ (by simp) rfl)
  have h43 : ((.val (.bool true)) : Vk).ok w0.heap.size (a.tmps.getD 43 undef) w := hI.has 38 _ 43 rfl rfl (hd ⟨38, .guard⟩ (by simp) rfl)
  refine ⟨Loose.wanted_some (d := 43) rfl rfl (show a.tmps.getD 43 undef = .bool true from h43), fun K hK => ?_⟩
  replace h43 : a.tmps.getD 43 undef = (.bool true) := h43
  have hR : Kd.R k33 33 w w0.heap.size (fun _ => True) (a.tmps.getD 45 undef) [⟨19, 0, 0⟩] := h45
  obtain ⟨A, c, e1⟩ := Kd.R_slice hR
  rw [e1] at hR
  replace e1 : a.tmps.getD 45 undef = .slice A 1 c := e1
  refine Loose.call_step Try.func20 (by kernel_rfl) rfl #[.int .i64 1, .slice A 1 c] rfl (by simp [Act.eval, e1]) ((tallowlaw20_one.calls 1 _ A c [⟨19, 0, 0⟩] [⟨0, 1, [], [], [⟨19, 0, 0⟩]⟩] w (Kd.R_V (Kd.R_tight rfl hR)) rfl).mono ?_)
  rintro e w' ⟨v0, rfl, hN, hb⟩
  obtain ⟨A', c', rfl, hle, hC⟩ := Kd.N_reads hN
  exact ⟨_, rfl, hK _ w' hb ⟨A', c', rfl, hle, hC⟩⟩
set_option maxRecDepth 100000 in
theorem wstep42 (g1 g2 : Nat) (w0 : World) (a0 : Act) (Q : Exit → Act → World → Prop) (q1 : a0.tmps.getD 1 undef = .pointer (some ⟨g1, 0, none⟩)) (q2 : a0.tmps.getD 2 undef = .pointer (some ⟨g2, 0, none⟩)) (k1 : w0.heap[g1]? = some (.cells #[.int .i64 0, .int .i64 0, .int .i64 0] 33 (0, 0))) (k2 : w0.heap[g2]? = some (.cells #[.int .i64 19, .int .i64 0, .int .i64 0] 33 (0, 0))) : ∀ o, wops[42]? = some o → Loose.Step Try.prog wops (Vk.at (wtab g1 g2) w0.heap.size) w0 a0 Q 42 o := by
  intro o ho
  have ho2 : (some ({ dst := some 47, op := Go.Op.load 33 (Go.Operand.tmp 2), type := 33, pos := "outright.go:18", after := #[{ on := 38, ground := Go.Ground.guard }], guard := some (38, true) }) : Option Oper) = some o := ho
  obtain rfl := Option.some.inj ho2
  clear ho2 ho
  intro listed a w hd hI
  have h43 : ((.val (.bool true)) : Vk).ok w0.heap.size (a.tmps.getD 43 undef) w := hI.has 38 _ 43 rfl rfl (hd ⟨38, .guard⟩ (by simp) rfl)
  refine ⟨Loose.wanted_some (d := 43) rfl rfl (show a.tmps.getD 43 undef = .bool true from h43), fun K hK => ?_⟩
  replace h43 : a.tmps.getD 43 undef = (.bool true) := h43
  have e1 : a.tmps.getD 2 undef = .pointer (some ⟨g2, 0, none⟩) := (hI.others 2 (Loose.no_dst (by kernel_rfl))).trans q2
  have hk := (hI.below.block g2 (blk_lt k2)).trans k2
  have hc0 : w.cell? ⟨g2, 0, none⟩ = some (.int .i64 19) := (blk_cell hk 0).trans rfl
  have hc1 : w.cell? ⟨g2, 1, none⟩ = some (.int .i64 0) := (blk_cell hk 1).trans rfl
  have hc2 : w.cell? ⟨g2, 2, none⟩ = some (.int .i64 0) := (blk_cell hk 2).trans rfl
  refine Loose.value_step (v := .agg #[.int .i64 19, .int .i64 0, .int .i64 0]) (w' := w) ?_ (hK _ _ (Below.refl _ _) rfl)
  unfold execOp
  simp only [Act.eval, e1]
  go_simp
set_option maxRecDepth 100000 in
theorem wstep43 (g1 g2 : Nat) (w0 : World) (a0 : Act) (Q : Exit → Act → World → Prop) (q1 : a0.tmps.getD 1 undef = .pointer (some ⟨g1, 0, none⟩)) (q2 : a0.tmps.getD 2 undef = .pointer (some ⟨g2, 0, none⟩)) (k1 : w0.heap[g1]? = some (.cells #[.int .i64 0, .int .i64 0, .int .i64 0] 33 (0, 0))) (k2 : w0.heap[g2]? = some (.cells #[.int .i64 19, .int .i64 0, .int .i64 0] 33 (0, 0))) : ∀ o, wops[43]? = some o → Loose.Step Try.prog wops (Vk.at (wtab g1 g2) w0.heap.size) w0 a0 Q 43 o := by
  intro o ho
  have ho2 : (some ({ dst := some 48, op := Go.Op.buildSlice 39 1 #[(0, Go.Operand.tmp 47)], type := 39, pos := "outright.go:18", after := #[{ on := 42, ground := Go.Ground.data }, { on := 38, ground := Go.Ground.guard }], guard := some (38, true) }) : Option Oper) = some o := ho
  obtain rfl := Option.some.inj ho2
  clear ho2 ho
  intro listed a w hd hI
  have h47 : ((.val (.agg #[.int .i64 19, .int .i64 0, .int .i64 0])) : Vk).ok w0.heap.size (a.tmps.getD 47 undef) w := hI.has 42 _ 47 rfl rfl (hd ⟨42, .data⟩ (by simp) rfl)
  have h43 : ((.val (.bool true)) : Vk).ok w0.heap.size (a.tmps.getD 43 undef) w := hI.has 38 _ 43 rfl rfl (hd ⟨38, .guard⟩ (by simp) rfl)
  refine ⟨Loose.wanted_some (d := 43) rfl rfl (show a.tmps.getD 43 undef = .bool true from h43), fun K hK => ?_⟩
  replace h47 : a.tmps.getD 47 undef = (.agg #[.int .i64 19, .int .i64 0, .int .i64 0]) := h47
  replace h43 : a.tmps.getD 43 undef = (.bool true) := h43
  refine Loose.value_step (v := .slice (some ⟨w.heap.size, 0, none⟩) 1 1) (w' := w.alloc (.cells #[.int .i64 19, .int .i64 0, .int .i64 0] 33)) ?_ (hK _ _ (below_alloc (Below.refl _ _) _) (R33_new w w0.heap.size hI.below.size [⟨19, 0, 0⟩] (by decide)))
  unfold execOp
  simp only [Act.eval, List.map_toArray, List.map_cons, List.map_nil, h47]
  go_simp
set_option maxRecDepth 100000 in
theorem wstep44 (g1 g2 : Nat) (w0 : World) (a0 : Act) (Q : Exit → Act → World → Prop) (q1 : a0.tmps.getD 1 undef = .pointer (some ⟨g1, 0, none⟩)) (q2 : a0.tmps.getD 2 undef = .pointer (some ⟨g2, 0, none⟩)) (k1 : w0.heap[g1]? = some (.cells #[.int .i64 0, .int .i64 0, .int .i64 0] 33 (0, 0))) (k2 : w0.heap[g2]? = some (.cells #[.int .i64 19, .int .i64 0, .int .i64 0] 33 (0, 0))) : ∀ o, wops[44]? = some o → Loose.Step Try.prog wops (Vk.at (wtab g1 g2) w0.heap.size) w0 a0 Q 44 o := by
  intro o ho
  have ho2 : (some ({ dst := some 49, op := Go.Op.call { callee := Go.Callee.value (Go.Operand.func 20), args := #[Go.Operand.const (Go.Value.int Go.IntKind.i64 1), Go.Operand.tmp 48], argTypes := #[3, 39] }, type := 28, pos := "outright.go:18", after := #[{ on := 43, ground := Go.Ground.data }, { on := 41, ground := Go.Ground.chain }, { on := 38, ground := Go.Ground.guard }], guard := some (38, true) }) : Option Oper) = some o := ho
  obtain rfl := Option.some.inj ho2
  clear ho2 ho
  intro listed a w hd hI
  have h48 : ((.ins [⟨19, 0, 0⟩]) : Vk).ok w0.heap.size (a.tmps.getD 48 undef) w := hI.has 43 _ 48 rfl rfl (hd ⟨43, .data⟩ (by simp) rfl)
  have h43 : ((.val (.bool true)) : Vk).ok w0.heap.size (a.tmps.getD 43 undef) w := hI.has 38 _ 43 rfl rfl (hd ⟨38, .guard⟩ (by simp) rfl)
  refine ⟨Loose.wanted_some (d := 43) rfl rfl (show a.tmps.getD 43 undef = .bool true from h43), fun K hK => ?_⟩
  replace h43 : a.tmps.getD 43 undef = (.bool true) := h43
  have hR : Kd.R k33 33 w w0.heap.size (fun _ => True) (a.tmps.getD 48 undef) [⟨19, 0, 0⟩] := h48
  obtain ⟨A, c, e1⟩ := Kd.R_slice hR
  rw [e1] at hR
  replace e1 : a.tmps.getD 48 undef = .slice A 1 c := e1
  refine Loose.call_step Try.func20 (by kernel_rfl) rfl #[.int .i64 1, .slice A 1 c] rfl (by simp [Act.eval, e1]) ((tallowlaw20_one.calls 1 _ A c [⟨19, 0, 0⟩] [⟨0, 1, [], [], [⟨19, 0, 0⟩]⟩] w (Kd.R_V (Kd.R_tight rfl hR)) rfl).mono ?_)
  rintro e w' ⟨v0, rfl, hN, hb⟩
  obtain ⟨A', c', rfl, hle, hC⟩ := Kd.N_reads hN
  exact ⟨_, rfl, hK _ w' hb ⟨A', c', rfl, hle, hC⟩⟩
set_option maxRecDepth 100000 in
theorem wstep45 (g1 g2 : Nat) (w0 : World) (a0 : Act) (Q : Exit → Act → World → Prop) (q1 : a0.tmps.getD 1 undef = .pointer (some ⟨g1, 0, none⟩)) (q2 : a0.tmps.getD 2 undef = .pointer (some ⟨g2, 0, none⟩)) (k1 : w0.heap[g1]? = some (.cells #[.int .i64 0, .int .i64 0, .int .i64 0] 33 (0, 0))) (k2 : w0.heap[g2]? = some (.cells #[.int .i64 19, .int .i64 0, .int .i64 0] 33 (0, 0))) : ∀ o, wops[45]? = some o → Loose.Step Try.prog wops (Vk.at (wtab g1 g2) w0.heap.size) w0 a0 Q 45 o := by
  intro o ho
  have ho2 : (some ({ dst := some 50, op := Go.Op.call { callee := Go.Callee.value (Go.Operand.func 17), args := #[Go.Operand.tmp 46, Go.Operand.tmp 49], argTypes := #[28, 28] }, type := 4, pos := "outright.go:18", after := #[{ on := 41, ground := Go.Ground.data }, { on := 44, ground := Go.Ground.data }, { on := 44, ground := Go.Ground.chain }, { on := 38, ground := Go.Ground.guard }], guard := some (38, true) }) : Option Oper) = some o := ho
  obtain rfl := Option.some.inj ho2
  clear ho2 ho
  intro listed a w hd hI
  have h46 : ((.prg [⟨0, 1, [], [], [⟨19, 0, 0⟩]⟩]) : Vk).ok w0.heap.size (a.tmps.getD 46 undef) w := hI.has 41 _ 46 rfl rfl (hd ⟨41, .data⟩ (by simp) rfl)
  have h49 : ((.prg [⟨0, 1, [], [], [⟨19, 0, 0⟩]⟩]) : Vk).ok w0.heap.size (a.tmps.getD 49 undef) w := hI.has 44 _ 49 rfl rfl (hd ⟨44, .data⟩ (by simp) rfl)
  have h43 : ((.val (.bool true)) : Vk).ok w0.heap.size (a.tmps.getD 43 undef) w := hI.has 38 _ 43 rfl rfl (hd ⟨38, .guard⟩ (by simp) rfl)
  refine ⟨Loose.wanted_some (d := 43) rfl rfl (show a.tmps.getD 43 undef = .bool true from h43), fun K hK => ?_⟩
  replace h43 : a.tmps.getD 43 undef = (.bool true) := h43
  obtain ⟨A, c, e1, hle, hC⟩ := h46
  obtain ⟨A2, c2, e2, hle2, hC2⟩ := h49
  replace e1 : a.tmps.getD 46 undef = .agg #[.slice A 1 c] := e1
  replace e2 : a.tmps.getD 49 undef = .agg #[.slice A2 1 c2] := e2
  refine Loose.call_step Try.func17 (by kernel_rfl) rfl #[.agg #[.slice A 1 c], .agg #[.slice A2 1 c2]] rfl (by simp [Act.eval, e1, e2]) ((code_Same.calls 40 A c [⟨0, 1, [], [], [⟨19, 0, 0⟩]⟩] A2 c2 [⟨0, 1, [], [], [⟨19, 0, 0⟩]⟩] true w hC hle hC2 hle2 (by decide +kernel)).mono ?_)
  rintro e w' ⟨rfl, hb⟩
  exact ⟨_, rfl, hK _ w' hb rfl⟩
set_option maxRecDepth 100000 in
theorem wstep46 (g1 g2 : Nat) (w0 : World) (a0 : Act) (Q : Exit → Act → World → Prop) (q1 : a0.tmps.getD 1 undef = .pointer (some ⟨g1, 0, none⟩)) (q2 : a0.tmps.getD 2 undef = .pointer (some ⟨g2, 0, none⟩)) (k1 : w0.heap[g1]? = some (.cells #[.int .i64 0, .int .i64 0, .int .i64 0] 33 (0, 0))) (k2 : w0.heap[g2]? = some (.cells #[.int .i64 19, .int .i64 0, .int .i64 0] 33 (0, 0))) : ∀ o, wops[46]? = some o → Loose.Step Try.prog wops (Vk.at (wtab g1 g2) w0.heap.size) w0 a0 Q 46 o := by
  intro o ho
  have ho2 : (some ({ dst := some 51, op := Go.Op.pick (Go.Operand.tmp 43) (Go.Operand.tmp 50) (Go.Operand.const (Go.Value.bool false)), type := 4, pos := "outright.go:18", after := #[{ on := 38, ground := Go.Ground.data }, { on := 45, ground := Go.Ground.data }], guard := none }) : Option Oper) = some o := ho
  obtain rfl := Option.some.inj ho2
  clear ho2 ho
  intro listed a w hd hI
  have h43 : ((.val (.bool true)) : Vk).ok w0.heap.size (a.tmps.getD 43 undef) w := hI.has 38 _ 43 rfl rfl (hd ⟨38, .data⟩ (by simp) rfl)
  have h50 : ((.val (.bool true)) : Vk).ok w0.heap.size (a.tmps.getD 50 undef) w := hI.has 45 _ 50 rfl rfl (hd ⟨45, .data⟩ (by simp) rfl)
  refine ⟨Loose.wanted_none rfl _, fun K hK => ?_⟩
  replace h43 : a.tmps.getD 43 undef = (.bool true) := h43
  replace h50 : a.tmps.getD 50 undef = (.bool true) := h50
  refine Loose.value_step (v := .bool true) (w' := w) ?_ (hK _ _ (Below.refl _ _) rfl)
  simp [execOp, go_sem, Act.eval, h43, h50]
set_option maxRecDepth 100000 in
theorem wstep47 (g1 g2 : Nat) (w0 : World) (a0 : Act) (Q : Exit → Act → World → Prop) (q1 : a0.tmps.getD 1 undef = .pointer (some ⟨g1, 0, none⟩)) (q2 : a0.tmps.getD 2 undef = .pointer (some ⟨g2, 0, none⟩)) (k1 : w0.heap[g1]? = some (.cells #[.int .i64 0, .int .i64 0, .int .i64 0] 33 (0, 0))) (k2 : w0.heap[g2]? = some (.cells #[.int .i64 19, .int .i64 0, .int .i64 0] 33 (0, 0))) : ∀ o, wops[47]? = some o → Loose.Step Try.prog wops (Vk.at (wtab g1 g2) w0.heap.size) w0 a0 Q 47 o := by
  intro o ho
  have ho2 : (some ({ dst := some 52, op := Go.Op.move (Go.Operand.tmp 51), type := 4, pos := "outright.go:18", after := #[{ on := 46, ground := Go.Ground.data }, { on := 45, ground := Go.Ground.chain }], guard := none }) : Option Oper) = some o := ho
  obtain rfl := Option.some.inj ho2
  clear ho2 ho
  intro listed a w hd hI
  have h51 : ((.val (.bool true)) : Vk).ok w0.heap.size (a.tmps.getD 51 undef) w := hI.has 46 _ 51 rfl rfl (hd ⟨46, .data⟩ (by simp) rfl)
  refine ⟨Loose.wanted_none rfl _, fun K hK => ?_⟩
  replace h51 : a.tmps.getD 51 undef = (.bool true) := h51
  refine Loose.value_step (v := .bool true) (w' := w) ?_ (hK _ _ (Below.refl _ _) rfl)
  simp [execOp, go_sem, Act.eval, h51]
set_option maxRecDepth 100000 in
theorem wstep48 (g1 g2 : Nat) (w0 : World) (a0 : Act) (Q : Exit → Act → World → Prop) (q1 : a0.tmps.getD 1 undef = .pointer (some ⟨g1, 0, none⟩)) (q2 : a0.tmps.getD 2 undef = .pointer (some ⟨g2, 0, none⟩)) (k1 : w0.heap[g1]? = some (.cells #[.int .i64 0, .int .i64 0, .int .i64 0] 33 (0, 0))) (k2 : w0.heap[g2]? = some (.cells #[.int .i64 19, .int .i64 0, .int .i64 0] 33 (0, 0))) : ∀ o, wops[48]? = some o → Loose.Step Try.prog wops (Vk.at (wtab g1 g2) w0.heap.size) w0 a0 Q 48 o := by
  intro o ho
  have ho2 : (some ({ dst := some 53, op := Go.Op.load 33 (Go.Operand.tmp 2), type := 33, pos := "outright.go:18", after := #[{ on := 47, ground := Go.Ground.guard }], guard := some (47, true) }) : Option Oper) = some o := ho
  obtain rfl := Option.some.inj ho2
  clear ho2 ho
  intro listed a w hd hI
  have h52 : ((.val (.bool true)) : Vk).ok w0.heap.size (a.tmps.getD 52 undef) w := hI.has 47 _ 52 rfl rfl (hd ⟨47, .guard⟩ (by simp) rfl)
  refine ⟨Loose.wanted_some (d := 52) rfl rfl (show a.tmps.getD 52 undef = .bool true from h52), fun K hK => ?_⟩
  replace h52 : a.tmps.getD 52 undef = (.bool true) := h52
  have e1 : a.tmps.getD 2 undef = .pointer (some ⟨g2, 0, none⟩) := (hI.others 2 (Loose.no_dst (by kernel_rfl))).trans q2
  have hk := (hI.below.block g2 (blk_lt k2)).trans k2
  have hc0 : w.cell? ⟨g2, 0, none⟩ = some (.int .i64 19) := (blk_cell hk 0).trans rfl
  have hc1 : w.cell? ⟨g2, 1, none⟩ = some (.int .i64 0) := (blk_cell hk 1).trans rfl
  have hc2 : w.cell? ⟨g2, 2, none⟩ = some (.int .i64 0) := (blk_cell hk 2).trans rfl
  refine Loose.value_step (v := .agg #[.int .i64 19, .int .i64 0, .int .i64 0]) (w' := w) ?_ (hK _ _ (Below.refl _ _) rfl)
  unfold execOp
  simp only [Act.eval, e1]
  go_simp
set_option maxRecDepth 100000 in
theorem wstep49 (g1 g2 : Nat) (w0 : World) (a0 : Act) (Q : Exit → Act → World → Prop) (q1 : a0.tmps.getD 1 undef = .pointer (some ⟨g1, 0, none⟩)) (q2 : a0.tmps.getD 2 undef = .pointer (some ⟨g2, 0, none⟩)) (k1 : w0.heap[g1]? = some (.cells #[.int .i64 0, .int .i64 0, .int .i64 0] 33 (0, 0))) (k2 : w0.heap[g2]? = some (.cells #[.int .i64 19, .int .i64 0, .int .i64 0] 33 (0, 0))) : ∀ o, wops[49]? = some o → Loose.Step Try.prog wops (Vk.at (wtab g1 g2) w0.heap.size) w0 a0 Q 49 o := by
  intro o ho
  have ho2 : (some ({ dst := some 54, op := Go.Op.buildSlice 39 1 #[(0, Go.Operand.tmp 53)], type := 39, pos := "outright.go:18", after := #[{ on := 48, ground := Go.Ground.data }, { on := 47, ground := Go.Ground.guard }], guard := some (47, true) }) : Option Oper) = some o := ho
  obtain rfl := Option.some.inj ho2
  clear ho2 ho
  intro listed a w hd hI
  have h53 : ((.val (.agg #[.int .i64 19, .int .i64 0, .int .i64 0])) : Vk).ok w0.heap.size (a.tmps.getD 53 undef) w := hI.has 48 _ 53 rfl rfl (hd ⟨48, .data⟩ (by simp) rfl)
  have h52 : ((.val (.bool true)) : Vk).ok w0.heap.size (a.tmps.getD 52 undef) w := hI.has 47 _ 52 rfl rfl (hd ⟨47, .guard⟩ (by simp) rfl)
  refine ⟨Loose.wanted_some (d := 52) rfl rfl (show a.tmps.getD 52 undef = .bool true from h52), fun K hK => ?_⟩
  replace h53 : a.tmps.getD 53 undef = (.agg #[.int .i64 19, .int .i64 0, .int .i64 0]) := h53
  replace h52 : a.tmps.getD 52 undef = (.bool true) := h52
  refine Loose.value_step (v := .slice (some ⟨w.heap.size, 0, none⟩) 1 1) (w' := w.alloc (.cells #[.int .i64 19, .int .i64 0, .int .i64 0] 33)) ?_ (hK _ _ (below_alloc (Below.refl _ _) _) (R33_new w w0.heap.size hI.below.size [⟨19, 0, 0⟩] (by decide)))
  unfold execOp
  simp only [Act.eval, List.map_toArray, List.map_cons, List.map_nil, h53]
  go_simp
set_option maxRecDepth 100000 in
theorem wstep50 (g1 g2 : Nat) (w0 : World) (a0 : Act) (Q : Exit → Act → World → Prop) (q1 : a0.tmps.getD 1 undef = .pointer (some ⟨g1, 0, none⟩)) (q2 : a0.tmps.getD 2 undef = .pointer (some ⟨g2, 0, none⟩)) (k1 : w0.heap[g1]? = some (.cells #[.int .i64 0, .int .i64 0, .int .i64 0] 33 (0, 0))) (k2 : w0.heap[g2]? = some (.cells #[.int .i64 19, .int .i64 0, .int .i64 0] 33 (0, 0))) : ∀ o, wops[50]? = some o → Loose.Step Try.prog wops (Vk.at (wtab g1 g2) w0.heap.size) w0 a0 Q 50 o := by
  intro o ho
  have ho2 : (some ({ dst := some 55, op := Go.Op.call { callee := Go.Callee.value (Go.Operand.func 20), args := #[Go.Operand.const (Go.Value.int Go.IntKind.i64 1), Go.Operand.tmp 54], argTypes := #[3, 39] }, type := 28, pos := "outright.go:18", after := #[{ on := 49, ground := Go.Ground.data }, { on := 47, ground := Go.Ground.chain }, { on := 47, ground := Go.Ground.guard }], guard := some (47, true) }) : Option Oper) = some o := ho
  obtain rfl := Option.some.inj ho2
  clear ho2 ho
  intro listed a w hd hI
  have h54 : ((.ins [⟨19, 0, 0⟩]) : Vk).ok w0.heap.size (a.tmps.getD 54 undef) w := hI.has 49 _ 54 rfl rfl (hd ⟨49, .data⟩ (by simp) rfl)
  have h52 : ((.val (.bool true)) : Vk).ok w0.heap.size (a.tmps.getD 52 undef) w := hI.has 47 _ 52 rfl rfl (hd ⟨47, .guard⟩ (by simp) rfl)
  refine ⟨Loose.wanted_some (d := 52) rfl rfl (show a.tmps.getD 52 undef = .bool true from h52), fun K hK => ?_⟩
  replace h52 : a.tmps.getD 52 undef = (.bool true) := h52
  have hR : Kd.R k33 33 w w0.heap.size (fun _ => True) (a.tmps.getD 54 undef) [⟨19, 0, 0⟩] := h54
  obtain ⟨A, c, e1⟩ := Kd.R_slice hR
  rw [e1] at hR
  replace e1 : a.tmps.getD 54 undef = .slice A 1 c := e1
  refine Loose.call_step Try.func20 (by kernel_rfl) rfl #[.int .i64 1, .slice A 1 c] rfl (by simp [Act.eval, e1]) ((tallowlaw20_one.calls 1 _ A c [⟨19, 0, 0⟩] [⟨0, 1, [], [], [⟨19, 0, 0⟩]⟩] w (Kd.R_V (Kd.R_tight rfl hR)) rfl).mono ?_)
  rintro e w' ⟨v0, rfl, hN, hb⟩
  obtain ⟨A', c', rfl, hle, hC⟩ := Kd.N_reads hN
  exact ⟨_, rfl, hK _ w' hb ⟨A', c', rfl, hle, hC⟩⟩
set_option maxRecDepth 100000 in
theorem wstep51 (g1 g2 : Nat) (w0 : World) (a0 : Act) (Q : Exit → Act → World → Prop) (q1 : a0.tmps.getD 1 undef = .pointer (some ⟨g1, 0, none⟩)) (q2 : a0.tmps.getD 2 undef = .pointer (some ⟨g2, 0, none⟩)) (k1 : w0.heap[g1]? = some (.cells #[.int .i64 0, .int .i64 0, .int .i64 0] 33 (0, 0))) (k2 : w0.heap[g2]? = some (.cells #[.int .i64 19, .int .i64 0, .int .i64 0] 33 (0, 0))) : ∀ o, wops[51]? = some o → Loose.Step Try.prog wops (Vk.at (wtab g1 g2) w0.heap.size) w0 a0 Q 51 o := by
  intro o ho
  have ho2 : (some ({ dst := some 56, op := Go.Op.load 33 (Go.Operand.tmp 2), type := 33, pos := "outright.go:18", after := #[{ on := 47, ground := Go.Ground.guard }], guard := some (47, true) }) : Option Oper) = some o := ho
  obtain rfl := Option.some.inj ho2
  clear ho2 ho
  intro listed a w hd hI
  have h52 : ((.val (.bool true)) : Vk).ok w0.heap.size (a.tmps.getD 52 undef) w := hI.has 47 _ 52 rfl rfl (hd ⟨47, .guard⟩ (by simp) rfl)
  refine ⟨Loose.wanted_some (d := 52) rfl rfl (show a.tmps.getD 52 undef = .bool true from h52), fun K hK => ?_⟩
  replace h52 : a.tmps.getD 52 undef = (.bool true) := h52
  have e1 : a.tmps.getD 2 undef = .pointer (some ⟨g2, 0, none⟩) := (hI.others 2 (Loose.no_dst (by kernel_rfl))).trans q2
  have hk := (hI.below.block g2 (blk_lt k2)).trans k2
  have hc0 : w.cell? ⟨g2, 0, none⟩ = some (.int .i64 19) := (blk_cell hk 0).trans rfl
  have hc1 : w.cell? ⟨g2, 1, none⟩ = some (.int .i64 0) := (blk_cell hk 1).trans rfl
  have hc2 : w.cell? ⟨g2, 2, none⟩ = some (.int .i64 0) := (blk_cell hk 2).trans rfl
  refine Loose.value_step (v := .agg #[.int .i64 19, .int .i64 0, .int .i64 0]) (w' := w) ?_ (hK _ _ (Below.refl _ _) rfl)
  unfold execOp
  simp only [Act.eval, e1]
  go_simp
set_option maxRecDepth 100000 in
theorem wstep52 (g1 g2 : Nat) (w0 : World) (a0 : Act) (Q : Exit → Act → World → Prop) (q1 : a0.tmps.getD 1 undef = .pointer (some ⟨g1, 0, none⟩)) (q2 : a0.tmps.getD 2 undef = .pointer (some ⟨g2, 0, none⟩)) (k1 : w0.heap[g1]? = some (.cells #[.int .i64 0, .int .i64 0, .int .i64 0] 33 (0, 0))) (k2 : w0.heap[g2]? = some (.cells #[.int .i64 19, .int .i64 0, .int .i64 0] 33 (0, 0))) : ∀ o, wops[52]? = some o → Loose.Step Try.prog wops (Vk.at (wtab g1 g2) w0.heap.size) w0 a0 Q 52 o := by
  intro o ho
  have ho2 : (some ({ dst := some 57, op := Go.Op.buildSlice 39 1 #[(0, Go.Operand.tmp 56)], type := 39, pos := "outright.go:18", after := #[{ on := 51, ground := Go.Ground.data }, { on := 47, ground := Go.Ground.guard }], guard := some (47, true) }) : Option Oper) = some o := ho
  obtain rfl := Option.some.inj ho2
  clear ho2 ho
  intro listed a w hd hI
  have h56 : ((.val (.agg #[.int .i64 19, .int .i64 0, .int .i64 0])) : Vk).ok w0.heap.size (a.tmps.getD 56 undef) w := hI.has 51 _ 56 rfl rfl (hd ⟨51, .data⟩ (by simp) rfl)
  have h52 : ((.val (.bool true)) : Vk).ok w0.heap.size (a.tmps.getD 52 undef) w := hI.has 47 _ 52 rfl rfl (hd ⟨47, .guard⟩ (by simp) rfl)
  refine ⟨Loose.wanted_some (d := 52) rfl rfl (show a.tmps.getD 52 undef = .bool true from h52), fun K hK => ?_⟩
  replace h56 : a.tmps.getD 56 undef = (.agg #[.int .i64 19, .int .i64 0, .int .i64 0]) := h56
  replace h52 : a.tmps.getD 52 undef = (.bool true) := h52
  refine Loose.value_step (v := .slice (some ⟨w.heap.size, 0, none⟩) 1 1) (w' := w.alloc (.cells #[.int .i64 19, .int .i64 0, .int .i64 0] 33)) ?_ (hK _ _ (below_alloc (Below.refl _ _) _) (R33_new w w0.heap.size hI.below.size [⟨19, 0, 0⟩] (by decide)))
  unfold execOp
  simp only [Act.eval, List.map_toArray, List.map_cons, List.map_nil, h56]
  go_simp
set_option maxRecDepth 100000 in
theorem wstep53 (g1 g2 : Nat) (w0 : World) (a0 : Act) (Q : Exit → Act → World → Prop) (q1 : a0.tmps.getD 1 undef = .pointer (some ⟨g1, 0, none⟩)) (q2 : a0.tmps.getD 2 undef = .pointer (some ⟨g2, 0, none⟩)) (k1 : w0.heap[g1]? = some (.cells #[.int .i64 0, .int .i64 0, .int .i64 0] 33 (0, 0))) (k2 : w0.heap[g2]? = some (.cells #[.int .i64 19, .int .i64 0, .int .i64 0] 33 (0, 0))) : ∀ o, wops[53]? = some o → Loose.Step Try.prog wops (Vk.at (wtab g1 g2) w0.heap.size) w0 a0 Q 53 o := by
  intro o ho
  have ho2 : (some ({ dst := some 58, op := Go.Op.call { callee := Go.Callee.value (Go.Operand.func 20), args := #[Go.Operand.const (Go.Value.int Go.IntKind.i64 2), Go.Operand.tmp 57], argTypes := #[3, 39] }, type := 28, pos := "outright.go:18", after := #[{ on := 52, ground := Go.Ground.data }, { on := 50, ground := Go.Ground.chain }, { on := 47, ground := Go.Ground.guard }], guard := some (47, true) }) : Option Oper) = some o := ho
  obtain rfl := Option.some.inj ho2
  clear ho2 ho
  intro listed a w hd hI
  have h57 : ((.ins [⟨19, 0, 0⟩]) : Vk).ok w0.heap.size (a.tmps.getD 57 undef) w := hI.has 52 _ 57 rfl rfl (hd ⟨52, .data⟩ (by simp) rfl)
  have h52 : ((.val (.bool true)) : Vk).ok w0.heap.size (a.tmps.getD 52 undef) w := hI.has 47 _ 52 rfl rfl (hd ⟨47, .guard⟩ (by simp) rfl)
  refine ⟨Loose.wanted_some (d := 52) rfl rfl (show a.tmps.getD 52 undef = .bool true from h52), fun K hK => ?_⟩
  replace h52 : a.tmps.getD 52 undef = (.bool true) := h52
  have hR : Kd.R k33 33 w w0.heap.size (fun _ => True) (a.tmps.getD 57 undef) [⟨19, 0, 0⟩] := h57
  obtain ⟨A, c, e1⟩ := Kd.R_slice hR
  rw [e1] at hR
  replace e1 : a.tmps.getD 57 undef = .slice A 1 c := e1
  refine Loose.call_step Try.func20 (by kernel_rfl) rfl #[.int .i64 2, .slice A 1 c] rfl (by simp [Act.eval, e1]) ((tallowlaw20_one.calls 2 _ A c [⟨19, 0, 0⟩] [⟨0, 2, [], [], [⟨19, 0, 0⟩]⟩] w (Kd.R_V (Kd.R_tight rfl hR)) rfl).mono ?_)
  rintro e w' ⟨v0, rfl, hN, hb⟩
  obtain ⟨A', c', rfl, hle, hC⟩ := Kd.N_reads hN
  exact ⟨_, rfl, hK _ w' hb ⟨A', c', rfl, hle, hC⟩⟩
set_option maxRecDepth 100000 in
theorem wstep54 (g1 g2 : Nat) (w0 : World) (a0 : Act) (Q : Exit → Act → World → Prop) (q1 : a0.tmps.getD 1 undef = .pointer (some ⟨g1, 0, none⟩)) (q2 : a0.tmps.getD 2 undef = .pointer (some ⟨g2, 0, none⟩)) (k1 : w0.heap[g1]? = some (.cells #[.int .i64 0, .int .i64 0, .int .i64 0] 33 (0, 0))) (k2 : w0.heap[g2]? = some (.cells #[.int .i64 19, .int .i64 0, .int .i64 0] 33 (0, 0))) : ∀ o, wops[54]? = some o → Loose.Step Try.prog wops (Vk.at (wtab g1 g2) w0.heap.size) w0 a0 Q 54 o := by
  intro o ho
  have ho2 : (some ({ dst := some 59, op := Go.Op.call { callee := Go.Callee.value (Go.Operand.func 17), args := #[Go.Operand.tmp 55, Go.Operand.tmp 58], argTypes := #[28, 28] }, type := 4, pos := "outright.go:18", after := #[{ on := 50, ground := Go.Ground.data }, { on := 53, ground := Go.Ground.data }, { on := 53, ground := Go.Ground.chain }, { on := 47, ground := Go.Ground.guard }], guard := some (47, true) }) : Option Oper) = some o := ho
  obtain rfl := Option.some.inj ho2
  clear ho2 ho
  intro listed a w hd hI
  have h55 : ((.prg [⟨0, 1, [], [], [⟨19, 0, 0⟩]⟩]) : Vk).ok w0.heap.size (a.tmps.getD 55 undef) w := hI.has 50 _ 55 rfl rfl (hd ⟨50, .data⟩ (by simp) rfl)
  have h58 : ((.prg [⟨0, 2, [], [], [⟨19, 0, 0⟩]⟩]) : Vk).ok w0.heap.size (a.tmps.getD 58 undef) w := hI.has 53 _ 58 rfl rfl (hd ⟨53, .data⟩ (by simp) rfl)
  have h52 : ((.val (.bool true)) : Vk).ok w0.heap.size (a.tmps.getD 52 undef) w := hI.has 47 _ 52 rfl rfl (hd ⟨47, .guard⟩ (by simp) rfl)
  refine ⟨Loose.wanted_some (d := 52) rfl rfl (show a.tmps.getD 52 undef = .bool true from h52), fun K hK => ?_⟩
  replace h52 : a.tmps.getD 52 undef = (.bool true) := h52
  obtain ⟨A, c, e1, hle, hC⟩ := h55
  obtain ⟨A2, c2, e2, hle2, hC2⟩ := h58
  replace e1 : a.tmps.getD 55 undef = .agg #[.slice A 1 c] := e1
  replace e2 : a.tmps.getD 58 undef = .agg #[.slice A2 1 c2] := e2
  refine Loose.call_step Try.func17 (by kernel_rfl) rfl #[.agg #[.slice A 1 c], .agg #[.slice A2 1 c2]] rfl (by simp [Act.eval, e1, e2]) ((code_Same.calls 40 A c [⟨0, 1, [], [], [⟨19, 0, 0⟩]⟩] A2 c2 [⟨0, 2, [], [], [⟨19, 0, 0⟩]⟩] false w hC hle hC2 hle2 (by decide +kernel)).mono ?_)
  rintro e w' ⟨rfl, hb⟩
  exact ⟨_, rfl, hK _ w' hb rfl⟩
set_option maxRecDepth 100000 in
theorem wstep55 (g1 g2 : Nat) (w0 : World) (a0 : Act) (Q : Exit → Act → World → Prop) (q1 : a0.tmps.getD 1 undef = .pointer (some ⟨g1, 0, none⟩)) (q2 : a0.tmps.getD 2 undef = .pointer (some ⟨g2, 0, none⟩)) (k1 : w0.heap[g1]? = some (.cells #[.int .i64 0, .int .i64 0, .int .i64 0] 33 (0, 0))) (k2 : w0.heap[g2]? = some (.cells #[.int .i64 19, .int .i64 0, .int .i64 0] 33 (0, 0))) : ∀ o, wops[55]? = some o → Loose.Step Try.prog wops (Vk.at (wtab g1 g2) w0.heap.size) w0 a0 Q 55 o := by
  intro o ho
  have ho2 : (some ({ dst := some 60, op := Go.Op.unOp Go.UnOp.not 4 (Go.Operand.tmp 59), type := 4, pos := "outright.go:18", after := #[{ on := 54, ground := Go.Ground.data }, { on := 47, ground := Go.Ground.guard }], guard := some (47, true) }) : Option Oper) = some o := ho
  obtain rfl := Option.some.inj ho2
  clear ho2 ho
  intro listed a w hd hI
  have h59 : ((.val (.bool false)) : Vk).ok w0.heap.size (a.tmps.getD 59 undef) w := hI.has 54 _ 59 rfl rfl (hd ⟨54, .data⟩ (by simp) rfl)
  have h52 : ((.val (.bool true)) : Vk).ok w0.heap.size (a.tmps.getD 52 undef) w := hI.has 47 _ 52 rfl rfl (hd ⟨47, .guard⟩ (by simp) rfl)
  refine ⟨Loose.wanted_some (d := 52) rfl rfl (show a.tmps.getD 52 undef = .bool true from h52), fun K hK => ?_⟩
  replace h59 : a.tmps.getD 59 undef = (.bool false) := h59
  replace h52 : a.tmps.getD 52 undef = (.bool true) := h52
  refine Loose.value_step (v := .bool true) (w' := w) ?_ (hK _ _ (Below.refl _ _) rfl)
  unfold execOp
  simp only [Act.eval, h59]
  go_simp
set_option maxRecDepth 100000 in
theorem wstep56 (g1 g2 : Nat) (w0 : World) (a0 : Act) (Q : Exit → Act → World → Prop) (q1 : a0.tmps.getD 1 undef = .pointer (some ⟨g1, 0, none⟩)) (q2 : a0.tmps.getD 2 undef = .pointer (some ⟨g2, 0, none⟩)) (k1 : w0.heap[g1]? = some (.cells #[.int .i64 0, .int .i64 0, .int .i64 0] 33 (0, 0))) (k2 : w0.heap[g2]? = some (.cells #[.int .i64 19, .int .i64 0, .int .i64 0] 33 (0, 0))) : ∀ o, wops[56]? = some o → Loose.Step Try.prog wops (Vk.at (wtab g1 g2) w0.heap.size) w0 a0 Q 56 o := by
  intro o ho
  have ho2 : (some ({ dst := some 61, op := Go.Op.pick (Go.Operand.tmp 52) (Go.Operand.tmp 60) (Go.Operand.const (Go.Value.bool false)), type := 4, pos := "outright.go:18", after := #[{ on := 47, ground := Go.Ground.data }, { on := 55, ground := Go.Ground.data }], guard := none }) : Option Oper) = some o := ho
  obtain rfl := Option.some.inj ho2
  clear ho2 ho
  intro listed a w hd hI
  have h52 : ((.val (.bool true)) : Vk).ok w0.heap.size (a.tmps.getD 52 undef) w := hI.has 47 _ 52 rfl rfl (hd ⟨47, .data⟩ (by simp) rfl)
  have h60 : ((.val (.bool true)) : Vk).ok w0.heap.size (a.tmps.getD 60 undef) w := hI.has 55 _ 60 rfl rfl (hd ⟨55, .data⟩ (by simp) rfl)
  refine ⟨Loose.wanted_none rfl _, fun K hK => ?_⟩
  replace h52 : a.tmps.getD 52 undef = (.bool true) := h52
  replace h60 : a.tmps.getD 60 undef = (.bool true) := h60
  refine Loose.value_step (v := .bool true) (w' := w) ?_ (hK _ _ (Below.refl _ _) rfl)
  simp [execOp, go_sem, Act.eval, h52, h60]
set_option maxRecDepth 100000 in
theorem wstep57 (g1 g2 : Nat) (w0 : World) (a0 : Act) (Q : Exit → Act → World → Prop) (q1 : a0.tmps.getD 1 undef = .pointer (some ⟨g1, 0, none⟩)) (q2 : a0.tmps.getD 2 undef = .pointer (some ⟨g2, 0, none⟩)) (k1 : w0.heap[g1]? = some (.cells #[.int .i64 0, .int .i64 0, .int .i64 0] 33 (0, 0))) (k2 : w0.heap[g2]? = some (.cells #[.int .i64 19, .int .i64 0, .int .i64 0] 33 (0, 0))) : ∀ o, wops[57]? = some o → Loose.Step Try.prog wops (Vk.at (wtab g1 g2) w0.heap.size) w0 a0 Q 57 o := by
  intro o ho
  have ho2 : (some ({ dst := some 0, op := Go.Op.assign (Go.Operand.tmp 61), type := 4, pos := "outright.go:18", after := #[{ on := 56, ground := Go.Ground.data }, { on := 54, ground := Go.Ground.chain }, { on := 0, ground := Go.Ground.phase }, { on := 1, ground := Go.Ground.phase }, { on := 2, ground := Go.Ground.phase }, { on := 3, ground := Go.Ground.phase }, { on := 4, ground := Go.Ground.phase }, { on := 5, ground := Go.Ground.phase }, { on := 6, ground := Go.Ground.phase }, { on := 7, ground := Go.Ground.phase }, { on := 8, ground := Go.Ground.phase }, { on := 9, ground := Go.Ground.phase }, { on := 10, ground := Go.Ground.phase }, { on := 11, ground := Go.Ground.phase }, { on := 12, ground := Go.Ground.phase }, { on := 13, ground := Go.Ground.phase }, { on := 14, ground := Go.Ground.phase }, { on := 15, ground := Go.Ground.phase }, { on := 16, ground := Go.Ground.phase }, { on := 17, ground := Go.Ground.phase }, { on := 18, ground := Go.Ground.phase }, { on := 19, ground := Go.Ground.phase }, { on := 20, ground := Go.Ground.phase }, { on := 21, ground := Go.Ground.phase }, { on := 22, ground := Go.Ground.phase }, { on := 23, ground := Go.Ground.phase }, { on := 24, ground := Go.Ground.phase }, { on := 25, ground := Go.Ground.phase }, { on := 26, ground := Go.Ground.phase }, { on := 27, ground := Go.Ground.phase }, { on := 28, ground := Go.Ground.phase }, { on := 29, ground := Go.Ground.phase }, { on := 30, ground := Go.Ground.phase }, { on := 31, ground := Go.Ground.phase }, { on := 32, ground := Go.Ground.phase }, { on := 33, ground := Go.Ground.phase }, { on := 34, ground := Go.Ground.phase }, { on := 35, ground := Go.Ground.phase }, { on := 36, ground := Go.Ground.phase }, { on := 37, ground := Go.Ground.phase }, { on := 38, ground := Go.Ground.phase }, { on := 39, ground := Go.Ground.phase }, { on := 40, ground := Go.Ground.phase }, { on := 41, ground := Go.Ground.phase }, { on := 42, ground := Go.Ground.phase }, { on := 43, ground := Go.Ground.phase }, { on := 44, ground := Go.Ground.phase }, { on := 45, ground := Go.Ground.phase }, { on := 46, ground := Go.Ground.phase }, { on := 47, ground := Go.Ground.phase }, { on := 48, ground := Go.Ground.phase }, { on := 49, ground := Go.Ground.phase }, { on := 50, ground := Go.Ground.phase }, { on := 51, ground := Go.Ground.phase }, { on := 52, ground := Go.Ground.phase }, { on := 53, ground := Go.Ground.phase }, { on := 54, ground := Go.Ground.phase }, { on := 55, ground := Go.Ground.phase }, { on := 56, ground := Go.Ground.phase }], guard := none }) : Option Oper) = some o := ho
  obtain rfl := Option.some.inj ho2
  clear ho2 ho
  intro listed a w hd hI
  have h61 : ((.val (.bool true)) : Vk).ok w0.heap.size (a.tmps.getD 61 undef) w := hI.has 56 _ 61 rfl rfl (hd ⟨56, .data⟩ (by simp) rfl)
  refine ⟨Loose.wanted_none rfl _, fun K hK => ?_⟩
  replace h61 : a.tmps.getD 61 undef = (.bool true) := h61
  refine Loose.value_step (v := .bool true) (w' := w) ?_ (hK _ _ (Below.refl _ _) rfl)
  simp [execOp, go_sem, Act.eval, h61]
theorem wsteps (g1 g2 : Nat) (w0 : World) (a0 : Act) (Q : Exit → Act → World → Prop) (q1 : a0.tmps.getD 1 undef = .pointer (some ⟨g1, 0, none⟩)) (q2 : a0.tmps.getD 2 undef = .pointer (some ⟨g2, 0, none⟩)) (k1 : w0.heap[g1]? = some (.cells #[.int .i64 0, .int .i64 0, .int .i64 0] 33 (0, 0))) (k2 : w0.heap[g2]? = some (.cells #[.int .i64 19, .int .i64 0, .int .i64 0] 33 (0, 0))) : ∀ (i : Nat) (o : Oper), wops[i]? = some o → Loose.Step Try.prog wops (Vk.at (wtab g1 g2) w0.heap.size) w0 a0 Q i o := by
  intro i o ho
  rcases (by omega : i = 0 ∨ i = 1 ∨ i = 2 ∨ i = 3 ∨ i = 4 ∨ i = 5 ∨ i = 6 ∨ i = 7 ∨ i = 8 ∨ i = 9 ∨ i = 10 ∨ i = 11 ∨ i = 12 ∨ i = 13 ∨ i = 14 ∨ i = 15 ∨ i = 16 ∨ i = 17 ∨ i = 18 ∨ i = 19 ∨ i = 20 ∨ i = 21 ∨ i = 22 ∨ i = 23 ∨ i = 24 ∨ i = 25 ∨ i = 26 ∨ i = 27 ∨ i = 28 ∨ i = 29 ∨ i = 30 ∨ i = 31 ∨ i = 32 ∨ i = 33 ∨ i = 34 ∨ i = 35 ∨ i = 36 ∨ i = 37 ∨ i = 38 ∨ i = 39 ∨ i = 40 ∨ i = 41 ∨ i = 42 ∨ i = 43 ∨ i = 44 ∨ i = 45 ∨ i = 46 ∨ i = 47 ∨ i = 48 ∨ i = 49 ∨ i = 50 ∨ i = 51 ∨ i = 52 ∨ i = 53 ∨ i = 54 ∨ i = 55 ∨ i = 56 ∨ i = 57 ∨ 58 ≤ i) with rfl | rfl | rfl | rfl | rfl | rfl | rfl | rfl | rfl | rfl | rfl | rfl | rfl | rfl | rfl | rfl | rfl | rfl | rfl | rfl | rfl | rfl | rfl | rfl | rfl | rfl | rfl | rfl | rfl | rfl | rfl | rfl | rfl | rfl | rfl | rfl | rfl | rfl | rfl | rfl | rfl | rfl | rfl | rfl | rfl | rfl | rfl | rfl | rfl | rfl | rfl | rfl | rfl | rfl | rfl | rfl | rfl | rfl | h
  · exact wstep0 g1 g2 w0 a0 Q q1 q2 k1 k2 o ho
  · exact wstep1 g1 g2 w0 a0 Q q1 q2 k1 k2 o ho
  · exact wstep2 g1 g2 w0 a0 Q q1 q2 k1 k2 o ho
  · exact wstep3 g1 g2 w0 a0 Q q1 q2 k1 k2 o ho
  · exact wstep4 g1 g2 w0 a0 Q q1 q2 k1 k2 o ho
  · exact wstep5 g1 g2 w0 a0 Q q1 q2 k1 k2 o ho
  · exact wstep6 g1 g2 w0 a0 Q q1 q2 k1 k2 o ho
  · exact wstep7 g1 g2 w0 a0 Q q1 q2 k1 k2 o ho
  · exact wstep8 g1 g2 w0 a0 Q q1 q2 k1 k2 o ho
  · exact wstep9 g1 g2 w0 a0 Q q1 q2 k1 k2 o ho
  · exact wstep10 g1 g2 w0 a0 Q q1 q2 k1 k2 o ho
  · exact wstep11 g1 g2 w0 a0 Q q1 q2 k1 k2 o ho
  · exact wstep12 g1 g2 w0 a0 Q q1 q2 k1 k2 o ho
  · exact wstep13 g1 g2 w0 a0 Q q1 q2 k1 k2 o ho
  · exact wstep14 g1 g2 w0 a0 Q q1 q2 k1 k2 o ho
  · exact wstep15 g1 g2 w0 a0 Q q1 q2 k1 k2 o ho
  · exact wstep16 g1 g2 w0 a0 Q q1 q2 k1 k2 o ho
  · exact wstep17 g1 g2 w0 a0 Q q1 q2 k1 k2 o ho
  · exact wstep18 g1 g2 w0 a0 Q q1 q2 k1 k2 o ho
  · exact wstep19 g1 g2 w0 a0 Q q1 q2 k1 k2 o ho
  · exact wstep20 g1 g2 w0 a0 Q q1 q2 k1 k2 o ho
  · exact wstep21 g1 g2 w0 a0 Q q1 q2 k1 k2 o ho
  · exact wstep22 g1 g2 w0 a0 Q q1 q2 k1 k2 o ho
  · exact wstep23 g1 g2 w0 a0 Q q1 q2 k1 k2 o ho
  · exact wstep24 g1 g2 w0 a0 Q q1 q2 k1 k2 o ho
  · exact wstep25 g1 g2 w0 a0 Q q1 q2 k1 k2 o ho
  · exact wstep26 g1 g2 w0 a0 Q q1 q2 k1 k2 o ho
  · exact wstep27 g1 g2 w0 a0 Q q1 q2 k1 k2 o ho
  · exact wstep28 g1 g2 w0 a0 Q q1 q2 k1 k2 o ho
  · exact wstep29 g1 g2 w0 a0 Q q1 q2 k1 k2 o ho
  · exact wstep30 g1 g2 w0 a0 Q q1 q2 k1 k2 o ho
  · exact wstep31 g1 g2 w0 a0 Q q1 q2 k1 k2 o ho
  · exact wstep32 g1 g2 w0 a0 Q q1 q2 k1 k2 o ho
  · exact wstep33 g1 g2 w0 a0 Q q1 q2 k1 k2 o ho
  · exact wstep34 g1 g2 w0 a0 Q q1 q2 k1 k2 o ho
  · exact wstep35 g1 g2 w0 a0 Q q1 q2 k1 k2 o ho
  · exact wstep36 g1 g2 w0 a0 Q q1 q2 k1 k2 o ho
  · exact wstep37 g1 g2 w0 a0 Q q1 q2 k1 k2 o ho
  · exact wstep38 g1 g2 w0 a0 Q q1 q2 k1 k2 o ho
  · exact wstep39 g1 g2 w0 a0 Q q1 q2 k1 k2 o ho
  · exact wstep40 g1 g2 w0 a0 Q q1 q2 k1 k2 o ho
  · exact wstep41 g1 g2 w0 a0 Q q1 q2 k1 k2 o ho
  · exact wstep42 g1 g2 w0 a0 Q q1 q2 k1 k2 o ho
  · exact wstep43 g1 g2 w0 a0 Q q1 q2 k1 k2 o ho
  · exact wstep44 g1 g2 w0 a0 Q q1 q2 k1 k2 o ho
  · exact wstep45 g1 g2 w0 a0 Q q1 q2 k1 k2 o ho
  · exact wstep46 g1 g2 w0 a0 Q q1 q2 k1 k2 o ho
  · exact wstep47 g1 g2 w0 a0 Q q1 q2 k1 k2 o ho
  · exact wstep48 g1 g2 w0 a0 Q q1 q2 k1 k2 o ho
  · exact wstep49 g1 g2 w0 a0 Q q1 q2 k1 k2 o ho
  · exact wstep50 g1 g2 w0 a0 Q q1 q2 k1 k2 o ho
  · exact wstep51 g1 g2 w0 a0 Q q1 q2 k1 k2 o ho
  · exact wstep52 g1 g2 w0 a0 Q q1 q2 k1 k2 o ho
  · exact wstep53 g1 g2 w0 a0 Q q1 q2 k1 k2 o ho
  · exact wstep54 g1 g2 w0 a0 Q q1 q2 k1 k2 o ho
  · exact wstep55 g1 g2 w0 a0 Q q1 q2 k1 k2 o ho
  · exact wstep56 g1 g2 w0 a0 Q q1 q2 k1 k2 o ho
  · exact wstep57 g1 g2 w0 a0 Q q1 q2 k1 k2 o ho
  · have : wops.size ≤ i := Nat.le_trans (Nat.le_of_eq (by kernel_rfl)) h
    rw [Array.getElem?_eq_none this] at ho; cases ho
set_option maxHeartbeats 2000000 in
set_option maxRecDepth 100000 in
theorem works_any (w : World) : Calls Try.prog 14 #[] w fun e w' => e = .returned (.bool true) ∧ Below w.heap.size w w' := by
  go_enter Try.func14, Try.ntmps14
  go_wp2_with fail
  have HB : Below w.heap.size w ((w.alloc (Obj.cells #[Value.int IntKind.i64 0, Value.int IntKind.i64 0, Value.int IntKind.i64 0] 33)).alloc (Obj.cells #[Value.int IntKind.i64 19, Value.int IntKind.i64 0, Value.int IntKind.i64 0] 33)) := below_alloc (below_alloc (Below.refl _ _) _) _
  have K2 : ((w.alloc (Obj.cells #[Value.int IntKind.i64 0, Value.int IntKind.i64 0, Value.int IntKind.i64 0] 33)).alloc (Obj.cells #[Value.int IntKind.i64 19, Value.int IntKind.i64 0, Value.int IntKind.i64 0] 33)).heap[w.heap.size + 1]? = some (.cells #[.int .i64 19, .int .i64 0, .int .i64 0] 33 (0, 0)) := by
    have := blk_new (w.alloc (Obj.cells #[Value.int IntKind.i64 0, Value.int IntKind.i64 0, Value.int IntKind.i64 0] 33)) (Obj.cells #[Value.int IntKind.i64 19, Value.int IntKind.i64 0, Value.int IntKind.i64 0] 33)
    simpa using this
  have K1 : ((w.alloc (Obj.cells #[Value.int IntKind.i64 0, Value.int IntKind.i64 0, Value.int IntKind.i64 0] 33)).alloc (Obj.cells #[Value.int IntKind.i64 19, Value.int IntKind.i64 0, Value.int IntKind.i64 0] 33)).heap[w.heap.size]? = some (.cells #[.int .i64 0, .int .i64 0, .int .i64 0] 33 (0, 0)) := blk_alloc (blk_new w _) _
  generalize (w.alloc (Obj.cells #[Value.int IntKind.i64 0, Value.int IntKind.i64 0, Value.int IntKind.i64 0] 33)).alloc (Obj.cells #[Value.int IntKind.i64 19, Value.int IntKind.i64 0, Value.int IntKind.i64 0] 33) = W at *
  refine Loose.region (ops := wops) (V := Vk.at (wtab w.heap.size (w.heap.size + 1)) W.drew.heap.size) (by kernel_rfl) (Vk.stable _ _) (Loose.ins_of (by kernel_rfl)) wdsts rfl (wsteps w.heap.size (w.heap.size + 1) W.drew _ _ rfl rfl ?k1 ?k2) ?k3
  case k1 => exact K1
  case k2 => exact K2
  case k3 =>
    intro listed a w4 hr hI
    have s0 : a.tmps.getD 0 undef = .bool true := hI.has 57 _ 0 rfl rfl (Loose.all_listed wdeps hI.lsize hr 57 (by decide +kernel))
    have hb4 : Below W.heap.size W w4 := (below_drew (Below.refl _ _)).trans hI.below
    have hfin := HB.trans (hb4.mono HB.size)
    have hdf : a.defers = [] := hI.defers
    clear hI hr K1 K2 HB hb4
    obtain ⟨t, d⟩ := a
    dsimp only at s0 hdf
    subst hdf
    go_wp2_with fail
    refine bodyPost_ret (results_tmp rfl _ _ _) rfl ?_
    exact ⟨by rw [s0], hfin⟩
def tallowlaw20_works.f : Option (Bool) := some true
theorem tallowlaw20_works.calls (r : Bool) (w : World) (h : tallowlaw20_works.f = some r) :
    Calls Try.prog 14 #[] w fun e w' => e = .returned (.bool r) ∧ Below w.heap.size w w' := by
  obtain rfl : true = r := Option.some.inj h
  exact works_any w
end Go.Proofs.Ytpdcedmnkkiekaa.G
end
