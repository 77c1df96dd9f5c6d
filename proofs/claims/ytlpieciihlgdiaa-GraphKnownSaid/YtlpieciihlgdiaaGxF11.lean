-- written by a program of this session (handprint.sh), over functions proved by hand
import Derived.Test.YtlpieciihlgdiaaGx0
import Derived.Test.YtlpieciihlgdiaaGxF9
import Derived.Test.YtlpieciihlgdiaaGxF14
import Derived.Test.YtlpieciihlgdiaaGxF16
import Derived.Test.YtlpieciihlgdiaaGxF18
import Derived.Test.YtlpieciihlgdiaaGxF21
import Derived.Test.YtlpieciihlgdiaaGxF22
namespace Go.Proofs.Ytlpieciihlgdiaa.G
open Go.RowKit Go.Proofs.YtlpieciihlgdiaaW.PrintWords Go.Proofs.YtlpieciihlgdiaaW.PrintLast Go.Proofs.YtlpieciihlgdiaaW.PrintMore
attribute [local go_sem] max2_int min2_int max_two min_two max_three min_three max_four min_four   -- for this text's walks alone
-- shrunk
set_option linter.unusedVariables false
set_option linter.unusedSimpArgs false
/-! ### tallowlaw10_works: function 11 -/
/-- the chapter's graph as it lies in memory; the third slot of its second object is (k, n) -/
structure FourAt (w : World) (gO g1 g2 : Nat) (k n : Int) : Prop where
 objs : w.heap[gO]? = some (.cells #[.int .i64 5, .int .i64 2, .slice none 0 0, .string ⟨#[97]⟩, .int .i64 0, .int .i64 6, .int .i64 1, .slice (some ⟨g1, 0, none⟩) 3 3, .string ⟨#[]⟩, .int .i64 0, .int .i64 0, .int .i64 0, .slice none 0 0, .string ⟨#[]⟩, .int .i64 0, .int .i64 9, .int .i64 0, .slice (some ⟨g2, 0, none⟩) 1 1, .string ⟨#[]⟩, .int .i64 0] 36 (0, 0))
 one : w.heap[g1]? = some (.cells #[.int .i64 5, .int .i64 1, .int .i64 6, .int .i64 2, .int .i64 k, .int .i64 n] 40 (0, 0))
 two : w.heap[g2]? = some (.cells #[.int .i64 5, .int .i64 1] 40 (0, 0))
theorem FourAt.below {w w' : World} {gO g1 g2 : Nat} {k n : Int} (h : FourAt w gO g1 g2 k n) (hb : Below w.heap.size w w') : FourAt w' gO g1 g2 k n :=
 ⟨(hb.block _ (blk_lt h.objs)).trans h.objs, (hb.block _ (blk_lt h.one)).trans h.one, (hb.block _ (blk_lt h.two)).trans h.two⟩
def fourL (k n : Int) : List S36 := [⟨5, 2, [], ⟨#[97]⟩, 0⟩, ⟨6, 1, [⟨5, 1⟩, ⟨6, 2⟩, ⟨k, n⟩], ⟨#[]⟩, 0⟩, ⟨0, 0, [], ⟨#[]⟩, 0⟩, ⟨9, 0, [⟨5, 1⟩], ⟨#[]⟩, 0⟩]
theorem flat40 : ∀ (xs : List S40) (j : Nat) (p : S40), xs[j]? = some p → ∀ (i : Nat) (u : Value), ([.int .i64 p.f0, .int .i64 p.f1] : List Value)[i]? = some u →
  (xs.flatMap fun x => [.int .i64 x.f0, .int .i64 x.f1])[j * 2 + i]? = some u
 | [], j, p, h, _, _, _ => by simp at h
 | x :: xs, 0, p, h, i, u, hu => by
  obtain rfl : x = p := by simpa using h
  have hi : i < 2 := by
   rcases Nat.lt_or_ge i 2 with h' | h'
   ·exact h'
   ·rw [List.getElem?_eq_none (by simpa using h')] at hu; cases hu
  rw [List.flatMap_cons, List.getElem?_append_left (by simpa using hi)]
  simpa using hu
 | x :: xs, j + 1, p, h, i, u, hu => by
  rw [List.flatMap_cons, List.getElem?_append_right (by simp; omega)]
  have := flat40 xs j p (by simpa using h) i u hu
  rw [← this]; congr 1; simp; omega
theorem add_at (g n : Nat) : (⟨g, 0, none⟩ : Addr).add n = ⟨g, n, none⟩ := by
 simp [Addr.add]; intros; omega
theorem C40_lit {w : World} {g : Nat} {cs : Array Value} {t : TypeId} (hh : w.heap[g]? = some (.cells cs t (0, 0))) (xs : List S40) (hx : xs.length ≤ 9223372036854775807)
  (hc : cs.toList = xs.flatMap fun x => [.int .i64 x.f0, .int .i64 x.f1]) : Kd.C k40 w (some ⟨g, 0, none⟩) xs.length xs := by
 refine ⟨rfl, hx, fun _ => ⟨_, rfl, fun j p hj => ⟨_, rfl, k40_mk w p, fun i u hu => ?_⟩⟩⟩
 have h1 := flat40 xs j p hj i u hu
 rw [← hc, Array.getElem?_toList] at h1
 have h2 := blk_cell hh (j * 2 + i)
 rw [h1] at h2
 have hs : k40.sz = 2 := rfl
 rw [hs, add_at]; exact h2
theorem ints_lit {w : World} {g : Nat} {cs : Array Value} {t : TypeId} (hh : w.heap[g]? = some (.cells cs t (0, 0))) (xs : List Int) (hx : xs.length ≤ 9223372036854775807)
  (hc : cs.toList = xs.map fun x => Value.int .i64 x) : Kd.C (Kd.int .i64) w (some ⟨g, 0, none⟩) xs.length xs := by
 refine ⟨rfl, hx, fun _ => ⟨_, rfl, fun j p hj => ⟨[.int .i64 p], rfl, rfl, fun i u hu => ?_⟩⟩⟩
 have hi : i = 0 := by
  rcases Nat.lt_or_ge i 1 with h' | h'
  ·omega
  ·rw [List.getElem?_eq_none (by simpa using h')] at hu; cases hu
 subst hi
 have h2 := blk_cell hh j
 have h3 : cs[j]? = some (.int .i64 p) := by
  rw [← Array.getElem?_toList, hc, List.getElem?_map, hj]; rfl
 have hu' : u = .int .i64 p := by simpa using hu.symm
 have hs : (Kd.int .i64).sz = 1 := rfl
 rw [hs, add_at, hu', Nat.mul_one, Nat.add_zero, h2, h3]
theorem cells_five {w : World} {g : Nat} {cs : Array Value} {t : TypeId} (hh : w.heap[g]? = some (.cells cs t (0, 0))) (j : Nat) {c : List Value} (hc : (cs.toList.drop (j * 5)).take 5 = c) : ∀ i u, c[i]? = some u → w.cell? ((⟨g, 0, none⟩ : Addr).add (j * 5 + i)) = some u := by
 intro i u hu
 have h2 := blk_cell hh (j * 5 + i)
 rw [add_at, h2, ← Array.getElem?_toList]
 rw [← hc, List.getElem?_take, List.getElem?_drop] at hu
 split at hu
 ·exact hu
 ·cases hu
theorem FourAt.reads {w : World} {gO g1 g2 : Nat} {k n : Int} (h : FourAt w gO g1 g2 k n) : Kd.C k36 w (some ⟨gO, 0, none⟩) 4 (fourL k n) := by
 refine ⟨rfl, by decide, fun _ => ⟨_, rfl, fun j p hj => ?_⟩⟩
 have c1 := C40_lit h.one [⟨5, 1⟩, ⟨6, 2⟩, ⟨k, n⟩] (by simp) rfl
 have c2 := C40_lit h.two [⟨5, 1⟩] (by decide) rfl
 rcases (by omega : j = 0 ∨ j = 1 ∨ j = 2 ∨ j = 3 ∨ 4 ≤ j) with rfl | rfl | rfl | rfl | h4
 ·obtain rfl : (⟨5, 2, [], ⟨#[97]⟩, 0⟩ : S36) = p := Option.some.inj hj
  exact ⟨_, rfl, k36_mk w ⟨5, 2, [], ⟨#[97]⟩, 0⟩ (A2 := none) (c2 := 0) (Nat.le_refl _) (Kd.C_nil _ _), cells_five h.objs 0 rfl⟩
 ·obtain rfl : (⟨6, 1, [⟨5, 1⟩, ⟨6, 2⟩, ⟨k, n⟩], ⟨#[]⟩, 0⟩ : S36) = p := Option.some.inj hj
  exact ⟨_, rfl, k36_mk w ⟨6, 1, [⟨5, 1⟩, ⟨6, 2⟩, ⟨k, n⟩], ⟨#[]⟩, 0⟩ (A2 := some ⟨g1, 0, none⟩) (c2 := 3) (Nat.le_refl _) c1, cells_five h.objs 1 rfl⟩
 ·obtain rfl : (⟨0, 0, [], ⟨#[]⟩, 0⟩ : S36) = p := Option.some.inj hj
  exact ⟨_, rfl, k36_mk w ⟨0, 0, [], ⟨#[]⟩, 0⟩ (A2 := none) (c2 := 0) (Nat.le_refl _) (Kd.C_nil _ _), cells_five h.objs 2 rfl⟩
 ·obtain rfl : (⟨9, 0, [⟨5, 1⟩], ⟨#[]⟩, 0⟩ : S36) = p := Option.some.inj hj
  exact ⟨_, rfl, k36_mk w ⟨9, 0, [⟨5, 1⟩], ⟨#[]⟩, 0⟩ (A2 := some ⟨g2, 0, none⟩) (c2 := 1) (Nat.le_refl _) c2, cells_five h.objs 3 rfl⟩
 ·have : (fourL k n)[j]? = none := List.getElem?_eq_none (by show 4 ≤ j; exact h4)
  rw [this] at hj; cases hj
def FourOut (w : World) (e : Ending) (w' : World) : Prop := ∃ gO g1 g2 : Nat, e = .returned (.agg #[.slice (some ⟨gO, 0, none⟩) 4 4]) ∧ FourAt w' gO g1 g2 3 7 ∧ w.heap.size ≤ gO ∧ w.heap.size ≤ g1 ∧ w.heap.size ≤ g2 ∧ g1 ≠ gO ∧ g1 ≠ g2 ∧ Below w.heap.size w w'
set_option maxHeartbeats 2000000 in
theorem four_any (w : World) : Calls Try.prog 23 #[] w fun e w' => FourOut w e w' := by
 have hb0 : Below w.heap.size w (w.alloc (.cells #[.slice none 0 0] 24)) := below_alloc (Below.refl _ _) _
 have HB := Aside0.mk hb0
 have BK : Aside0 ((w.alloc (.cells #[.slice none 0 0] 24)).heap[w.heap.size]? = some (.cells #[.slice none 0 0] 24 (0, 0))) := ⟨blk_new _ _⟩
 clear hb0
 go_enter Try.func23, Try.ntmps23
 go_wp2_with (first
  | (go_at_call 22; have HW3 := Aside0.mk hw3; clear hw3; refine (tallowlaw10_of.calls _ _ _ _ _ rfl).mono ?_; rintro e w4 ⟨rfl, hb⟩; have BN := Aside0.mk ((hb.block _ (blk_lt (blk_new _ _))).trans (blk_new _ _)); replace BK := Aside0.mk ((hb.block _ (blk_lt (blk_alloc BK.out _))).trans (blk_alloc BK.out _)); replace HB := Aside0.mk (below_step (below_alloc HB.out _) hb); clear hb; have x0 : w4.cell? ⟨w.heap.size, 0, none⟩ = some (.slice none 0 0) := (blk_cell BK.out 0).trans rfl; have f0 := blk_frozen BK.out 0; have hlt := blk_lt BK.out)
  | (go_at_call 22; (with_reducible refine (tallowlaw10_of.calls 3 7 _ _ _ rfl).mono ?_); rintro e w3 ⟨rfl, hb⟩; replace BK := Aside0.mk ((hb.block _ (blk_lt BK.out)).trans BK.out); replace HB := Aside0.mk (below_step HB.out hb); have hw3 := blk_lt BK.out; clear hb)
  | (go_at_call 22; refine (tallowlaw10_of.calls _ _ _ _ _ rfl).mono ?_; rintro e w1 ⟨rfl, hb⟩; replace BK := Aside0.mk ((hb.block _ (blk_lt BK.out)).trans BK.out); replace HB := Aside0.mk (below_step HB.out hb); clear hb))
 have hlt3 := HW3.out
 have hlt4 := blk_lt BN.out
 refine bodyPost_ret (v := .agg #[.slice (some ⟨w4.heap.size + 1, 0, none⟩) 4 4]) (by simp [results, Try.results23, go_sem, hlt, x0]) rfl ?_
 refine ⟨w4.heap.size + 1, w3.heap.size, w4.heap.size, rfl, ⟨?_, ?_, ?_⟩, by have := HB.out.size; omega, by omega, by omega, by omega, by omega, ?_⟩
 ·have h1 := blk_new ((w4.setCell ⟨w.heap.size, 0, none⟩ (.slice (some ⟨w4.heap.size + 1, 0, none⟩) 4 4)).alloc (.cells #[.int .i64 5, .int .i64 1] 40)) (.cells #[.int .i64 5, .int .i64 2, .slice none 0 0, .string ⟨#[97]⟩, .int .i64 0, .int .i64 6, .int .i64 1, .slice (some ⟨w3.heap.size, 0, none⟩) 3 3, .string ⟨#[]⟩, .int .i64 0, .int .i64 0, .int .i64 0, .slice none 0 0, .string ⟨#[]⟩, .int .i64 0, .int .i64 9, .int .i64 0, .slice (some ⟨w4.heap.size, 0, none⟩) 1 1, .string ⟨#[]⟩, .int .i64 0] 36 (0, 0))
  have e : ((w4.setCell ⟨w.heap.size, 0, none⟩ (.slice (some ⟨w4.heap.size + 1, 0, none⟩) 4 4)).alloc (.cells #[.int .i64 5, .int .i64 1] 40)).heap.size = w4.heap.size + 1 := by simp
  rw [e] at h1
  exact h1
 ·refine blk_alloc (blk_alloc ?_ _) _
  rw [Below.heap_setCell _ _ _ _ (by show w3.heap.size ≠ w.heap.size; omega)]
  exact BN.out
 ·refine blk_alloc ?_ _
  have h1 := blk_new (w4.setCell ⟨w.heap.size, 0, none⟩ (.slice (some ⟨w4.heap.size + 1, 0, none⟩) 4 4)) (.cells #[.int .i64 5, .int .i64 1] 40 (0, 0))
  have e : (w4.setCell ⟨w.heap.size, 0, none⟩ (.slice (some ⟨w4.heap.size + 1, 0, none⟩) 4 4)).heap.size = w4.heap.size := by simp
  rw [e] at h1
  exact h1
 ·exact below_alloc (below_alloc (HB.out.setCell (Nat.le_refl _) _) _) _
/-- what an operation of a region gives: a value outright; a row of ints of the call's own; a new block -/
inductive Vk where
 | val (v : Value)
 | ints (l : List Int)
 | blk (cs : Array Value) (n : Nat) (t : Nat)
def Vk.ok (base : Nat) : Vk → Value → World → Prop
 | .val v => fun u _ => u = v
 | .ints l => fun u w => Kd.R (Kd.int .i64) 3 w base (fun _ => True) u l
 | .blk cs n t => fun u w => ∃ g, u = .slice (some ⟨g, 0, none⟩) n n ∧ w.heap[g]? = some (.cells cs t (0, 0))
def Vk.at (tab : List Vk) (base : Nat) (i : Nat) : Value → World → Prop := Vk.ok base (tab.getD i (.val undef))
theorem Vk.stable (tab : List Vk) (base : Nat) : ∀ i v (w w' : World), Vk.at tab base i v w → Below w.heap.size w w' → Vk.at tab base i v w' := by
 intro i v w w' h hb
 unfold Vk.at at h ⊢
 cases hk : tab.getD i (.val undef) with
 | val u => rw [hk] at h; exact h
 | ints l => rw [hk] at h; exact Kd.R_below h hb
 | blk cs n t =>
  rw [hk] at h
  obtain ⟨g, e, hh⟩ := h
  exact ⟨g, e, (hb.block _ (blk_lt hh)).trans hh⟩
theorem eql_calls (k : Nat) (A : Option Addr) (c : Nat) (A' : Option Addr) (c' : Nat) (l : List Int) (w : World) (h1 : Kd.C (Kd.int .i64) w A l.length l) (h2 : l.length ≤ c) (h3 : Kd.C (Kd.int .i64) w A' l.length l) (h4 : l.length ≤ c') (he : tallowlaw10_ints.f k l l = some true) :
  Calls Try.prog 21 #[.slice A l.length c, .slice A' l.length c'] w fun e w' => e = .returned (.bool true) ∧ Below w.heap.size w w' :=
 (tallowlaw10_ints.calls k A c l A' c' l true w h1 h2 h3 h4 he).mono fun e w' ⟨he, hd⟩ => ⟨he, by obtain ⟨n, rfl⟩ := hd; exact pw_below_drewN (Below.refl _ _) n⟩
noncomputable def w3ops : Array Oper := opsOf Try.f11 3
def w3tab (gb gO g1 g2 : Nat) : List Vk := [(.val (.agg #[.slice (some ⟨gO, 0, none⟩) 4 4])), (.ints [2, 1, 0, 0]), (.blk #[.int .i64 2, .int .i64 1, .int .i64 0, .int .i64 0] 4 3), (.val (.bool true)), (.val (.bool true)), (.val (.agg #[.slice (some ⟨gO, 0, none⟩) 4 4])), (.ints []), (.val (.bool true)), (.val (.bool true)), (.val (.bool true)), (.val (.agg #[.slice (some ⟨gO, 0, none⟩) 4 4])), (.val (.agg #[.int .i64 9, .int .i64 4])), (.val (.agg #[.int .i64 5, .int .i64 1])), (.val (.agg #[.int .i64 3, .int .i64 5])), (.blk #[.int .i64 9, .int .i64 4, .int .i64 5, .int .i64 1, .int .i64 3, .int .i64 5] 3 40), (.ints [1, 4]), (.blk #[.int .i64 1, .int .i64 4] 2 3), (.val (.bool true)), (.val (.bool true)), (.val (.bool true)), (.val (.agg #[.slice (some ⟨gO, 0, none⟩) 4 4])), (.ints [2, 4]), (.blk #[.int .i64 2, .int .i64 4] 2 3), (.val (.bool true)), (.val (.bool true)), (.val (.bool true)), (.val (.agg #[.slice (some ⟨gO, 0, none⟩) 4 4])), (.ints [2]), (.blk #[.int .i64 2] 1 3), (.val (.bool true)), (.val (.bool true)), (.val (.bool true))]
theorem w3dsts : ∀ (i j : Nat) (oi oj : Oper) (d : Nat), w3ops[i]? = some oi → w3ops[j]? = some oj → oi.dst = some d → oj.dst = some d → i = j := Loose.dsts_of (l := [some 7, some 8, some 9, some 10, some 11, some 12, some 13, some 14, some 15, some 16, some 17, some 18, some 19, some 20, some 21, some 22, some 23, some 24, some 25, some 26, some 27, some 28, some 29, some 30, some 31, some 32, some 33, some 34, some 35, some 36, some 37, some 3]) (by kernel_rfl) (by decide)
theorem w3deps : ∀ (i : Nat) (o : Oper), w3ops[i]? = some o → ∀ e ∈ o.after, e.on < i := Loose.deps_of (by kernel_rfl)
set_option maxRecDepth 100000 in
theorem w3step0 (gb gO g1 g2 : Nat) (w0 : World) (a0 : Act) (Q : Exit → Act → World → Prop) (q1 : a0.tmps.getD 1 undef = .pointer (some ⟨gb, 0, none⟩)) (qg : w0.cell? ⟨gb, 0, none⟩ = some (.slice (some ⟨gO, 0, none⟩) 4 4)) (qF : FourAt w0 gO g1 g2 3 7) : ∀ o, w3ops[0]? = some o → Loose.Step Try.prog w3ops (Vk.at (w3tab gb gO g1 g2) w0.heap.size) w0 a0 Q 0 o := by
 intro o ho
 have ho2 : (some ({ dst := some 7, op := Go.Op.load 24 (Go.Operand.tmp 1), type := 24, pos := "outright.go:36", after := #[], guard := none }) : Option Oper) = some o := ho
 obtain rfl := Option.some.inj ho2
 clear ho2 ho
 intro listed a w hd hI
 refine ⟨Loose.wanted_none rfl _, fun K hK => ?_⟩
 have e1 : a.tmps.getD 1 undef = .pointer (some ⟨gb, 0, none⟩) := (hI.others 1 (Loose.no_dst (by kernel_rfl))).trans q1
 have hc := cell_below (hI.below) qg
 refine Loose.value_step (v := .agg #[.slice (some ⟨gO, 0, none⟩) 4 4]) (w' := w) ?_ (hK _ _ (Below.refl _ _) rfl)
 unfold execOp
 simp only [Act.eval, e1]
 go_simp
set_option maxRecDepth 100000 in
theorem w3step1 (gb gO g1 g2 : Nat) (w0 : World) (a0 : Act) (Q : Exit → Act → World → Prop) (q1 : a0.tmps.getD 1 undef = .pointer (some ⟨gb, 0, none⟩)) (qg : w0.cell? ⟨gb, 0, none⟩ = some (.slice (some ⟨gO, 0, none⟩) 4 4)) (qF : FourAt w0 gO g1 g2 3 7) : ∀ o, w3ops[1]? = some o → Loose.Step Try.prog w3ops (Vk.at (w3tab gb gO g1 g2) w0.heap.size) w0 a0 Q 1 o := by
 intro o ho
 have ho2 : (some ({ dst := some 8, op := Go.Op.call { callee := Go.Callee.value (Go.Operand.func 14), args := #[Go.Operand.tmp 7], argTypes := #[24] }, type := 29, pos := "outright.go:36", after := #[{ on := 0, ground := Go.Ground.data }], guard := none }) : Option Oper) = some o := ho
 obtain rfl := Option.some.inj ho2
 clear ho2 ho
 intro listed a w hd hI
 have h7 : ((.val (.agg #[.slice (some ⟨gO, 0, none⟩) 4 4])) : Vk).ok w0.heap.size (a.tmps.getD 7 undef) w := hI.has 0 _ 7 rfl rfl (hd ⟨0, .data⟩ (by simp) rfl)
 refine ⟨Loose.wanted_none rfl _, fun K hK => ?_⟩
 replace h7 : a.tmps.getD 7 undef = (.agg #[.slice (some ⟨gO, 0, none⟩) 4 4]) := h7
 refine Loose.call_step Try.func14 (by kernel_rfl) rfl #[.agg #[.slice (some ⟨gO, 0, none⟩) 4 4]] rfl (by simp [Act.eval, h7]) ((graph_Into.calls (some ⟨gO, 0, none⟩) 4 (fourL 3 7) [2, 1, 0, 0] w (qF.below hI.below).reads (by decide) (by decide +kernel)).mono ?_)
 rintro e w' ⟨v, rfl, hR, hb⟩
 exact ⟨v, rfl, hK v w' hb (Kd.R_lower hR hI.below.size)⟩
set_option maxRecDepth 100000 in
theorem w3step2 (gb gO g1 g2 : Nat) (w0 : World) (a0 : Act) (Q : Exit → Act → World → Prop) (q1 : a0.tmps.getD 1 undef = .pointer (some ⟨gb, 0, none⟩)) (qg : w0.cell? ⟨gb, 0, none⟩ = some (.slice (some ⟨gO, 0, none⟩) 4 4)) (qF : FourAt w0 gO g1 g2 3 7) : ∀ o, w3ops[2]? = some o → Loose.Step Try.prog w3ops (Vk.at (w3tab gb gO g1 g2) w0.heap.size) w0 a0 Q 2 o := by
 intro o ho
 have ho2 : (some ({ dst := some 9, op := Go.Op.buildSlice 29 4 #[(0, Go.Operand.const (Go.Value.int Go.IntKind.i64 2)), (1, Go.Operand.const (Go.Value.int Go.IntKind.i64 1)), (2, Go.Operand.const (Go.Value.int Go.IntKind.i64 0)), (3, Go.Operand.const (Go.Value.int Go.IntKind.i64 0))], type := 29, pos := "outright.go:36", after := #[], guard := none }) : Option Oper) = some o := ho
 obtain rfl := Option.some.inj ho2
 clear ho2 ho
 intro listed a w hd hI
 refine ⟨Loose.wanted_none rfl _, fun K hK => ?_⟩
 refine Loose.value_step (v := .slice (some ⟨w.heap.size, 0, none⟩) 4 4) (w' := w.alloc (.cells #[.int .i64 2, .int .i64 1, .int .i64 0, .int .i64 0] 3)) ?_ (hK _ _ (below_alloc (Below.refl _ _) _) ⟨w.heap.size, rfl, blk_new _ _⟩)
 unfold execOp
 simp only [Act.eval, List.map_toArray, List.map_cons, List.map_nil]
 go_simp
set_option maxRecDepth 100000 in
theorem w3step3 (gb gO g1 g2 : Nat) (w0 : World) (a0 : Act) (Q : Exit → Act → World → Prop) (q1 : a0.tmps.getD 1 undef = .pointer (some ⟨gb, 0, none⟩)) (qg : w0.cell? ⟨gb, 0, none⟩ = some (.slice (some ⟨gO, 0, none⟩) 4 4)) (qF : FourAt w0 gO g1 g2 3 7) : ∀ o, w3ops[3]? = some o → Loose.Step Try.prog w3ops (Vk.at (w3tab gb gO g1 g2) w0.heap.size) w0 a0 Q 3 o := by
 intro o ho
 have ho2 : (some ({ dst := some 10, op := Go.Op.call { callee := Go.Callee.value (Go.Operand.func 21), args := #[Go.Operand.tmp 8, Go.Operand.tmp 9], argTypes := #[29, 29] }, type := 4, pos := "outright.go:36", after := #[{ on := 1, ground := Go.Ground.data }, { on := 2, ground := Go.Ground.data }, { on := 1, ground := Go.Ground.chain }], guard := none }) : Option Oper) = some o := ho
 obtain rfl := Option.some.inj ho2
 clear ho2 ho
 intro listed a w hd hI
 have h8 : ((.ints [2, 1, 0, 0]) : Vk).ok w0.heap.size (a.tmps.getD 8 undef) w := hI.has 1 _ 8 rfl rfl (hd ⟨1, .data⟩ (by simp) rfl)
 have h9 : ((.blk #[.int .i64 2, .int .i64 1, .int .i64 0, .int .i64 0] 4 3) : Vk).ok w0.heap.size (a.tmps.getD 9 undef) w := hI.has 2 _ 9 rfl rfl (hd ⟨2, .data⟩ (by simp) rfl)
 refine ⟨Loose.wanted_none rfl _, fun K hK => ?_⟩
 obtain ⟨g, e2, hh⟩ := h9
 obtain ⟨A, c, e1, hc, hC⟩ := Kd.R_reads h8
 have hD := ints_lit hh [2, 1, 0, 0] (by decide) rfl
 refine Loose.call_step Try.func21 (by kernel_rfl) rfl #[.slice A 4 c, .slice (some ⟨g, 0, none⟩) 4 4] rfl (by simp [Act.eval, e1, e2]) ((eql_calls 10 A c (some ⟨g, 0, none⟩) 4 [2, 1, 0, 0] w hC hc hD (by decide) (by decide +kernel)).mono ?_)
 rintro e w' ⟨rfl, hb⟩
 exact ⟨_, rfl, hK _ w' hb rfl⟩
set_option maxRecDepth 100000 in
theorem w3step4 (gb gO g1 g2 : Nat) (w0 : World) (a0 : Act) (Q : Exit → Act → World → Prop) (q1 : a0.tmps.getD 1 undef = .pointer (some ⟨gb, 0, none⟩)) (qg : w0.cell? ⟨gb, 0, none⟩ = some (.slice (some ⟨gO, 0, none⟩) 4 4)) (qF : FourAt w0 gO g1 g2 3 7) : ∀ o, w3ops[4]? = some o → Loose.Step Try.prog w3ops (Vk.at (w3tab gb gO g1 g2) w0.heap.size) w0 a0 Q 4 o := by
 intro o ho
 have ho2 : (some ({ dst := some 11, op := Go.Op.move (Go.Operand.tmp 10), type := 4, pos := "outright.go:36", after := #[{ on := 3, ground := Go.Ground.data }, { on := 3, ground := Go.Ground.chain }], guard := none }) : Option Oper) = some o := ho
 obtain rfl := Option.some.inj ho2
 clear ho2 ho
 intro listed a w hd hI
 have h10 : ((.val (.bool true)) : Vk).ok w0.heap.size (a.tmps.getD 10 undef) w := hI.has 3 _ 10 rfl rfl (hd ⟨3, .data⟩ (by simp) rfl)
 refine ⟨Loose.wanted_none rfl _, fun K hK => ?_⟩
 replace h10 : a.tmps.getD 10 undef = (.bool true) := h10
 refine Loose.value_step (v := .bool true) (w' := w) ?_ (hK _ _ (Below.refl _ _) rfl)
 simp [execOp, go_sem, Act.eval, h10]
set_option maxRecDepth 100000 in
theorem w3step5 (gb gO g1 g2 : Nat) (w0 : World) (a0 : Act) (Q : Exit → Act → World → Prop) (q1 : a0.tmps.getD 1 undef = .pointer (some ⟨gb, 0, none⟩)) (qg : w0.cell? ⟨gb, 0, none⟩ = some (.slice (some ⟨gO, 0, none⟩) 4 4)) (qF : FourAt w0 gO g1 g2 3 7) : ∀ o, w3ops[5]? = some o → Loose.Step Try.prog w3ops (Vk.at (w3tab gb gO g1 g2) w0.heap.size) w0 a0 Q 5 o := by
 intro o ho
 have ho2 : (some ({ dst := some 12, op := Go.Op.load 24 (Go.Operand.tmp 1), type := 24, pos := "outright.go:36", after := #[{ on := 4, ground := Go.Ground.guard }], guard := some (4, true) }) : Option Oper) = some o := ho
 obtain rfl := Option.some.inj ho2
 clear ho2 ho
 intro listed a w hd hI
 have h11 : ((.val (.bool true)) : Vk).ok w0.heap.size (a.tmps.getD 11 undef) w := hI.has 4 _ 11 rfl rfl (hd ⟨4, .guard⟩ (by simp) rfl)
 refine ⟨Loose.wanted_some (d := 11) rfl rfl (show a.tmps.getD 11 undef = .bool true from h11), fun K hK => ?_⟩
 replace h11 : a.tmps.getD 11 undef = (.bool true) := h11
 have e1 : a.tmps.getD 1 undef = .pointer (some ⟨gb, 0, none⟩) := (hI.others 1 (Loose.no_dst (by kernel_rfl))).trans q1
 have hc := cell_below (hI.below) qg
 refine Loose.value_step (v := .agg #[.slice (some ⟨gO, 0, none⟩) 4 4]) (w' := w) ?_ (hK _ _ (Below.refl _ _) rfl)
 unfold execOp
 simp only [Act.eval, e1]
 go_simp
set_option maxRecDepth 100000 in
theorem w3step6 (gb gO g1 g2 : Nat) (w0 : World) (a0 : Act) (Q : Exit → Act → World → Prop) (q1 : a0.tmps.getD 1 undef = .pointer (some ⟨gb, 0, none⟩)) (qg : w0.cell? ⟨gb, 0, none⟩ = some (.slice (some ⟨gO, 0, none⟩) 4 4)) (qF : FourAt w0 gO g1 g2 3 7) : ∀ o, w3ops[6]? = some o → Loose.Step Try.prog w3ops (Vk.at (w3tab gb gO g1 g2) w0.heap.size) w0 a0 Q 6 o := by
 intro o ho
 have ho2 : (some ({ dst := some 13, op := Go.Op.call { callee := Go.Callee.value (Go.Operand.func 16), args := #[Go.Operand.tmp 12, Go.Operand.const (Go.Value.slice none 0 0)], argTypes := #[24, 27] }, type := 29, pos := "outright.go:36", after := #[{ on := 5, ground := Go.Ground.data }, { on := 4, ground := Go.Ground.chain }, { on := 4, ground := Go.Ground.guard }], guard := some (4, true) }) : Option Oper) = some o := ho
 obtain rfl := Option.some.inj ho2
 clear ho2 ho
 intro listed a w hd hI
 have h12 : ((.val (.agg #[.slice (some ⟨gO, 0, none⟩) 4 4])) : Vk).ok w0.heap.size (a.tmps.getD 12 undef) w := hI.has 5 _ 12 rfl rfl (hd ⟨5, .data⟩ (by simp) rfl)
 have h11 : ((.val (.bool true)) : Vk).ok w0.heap.size (a.tmps.getD 11 undef) w := hI.has 4 _ 11 rfl rfl (hd ⟨4, .guard⟩ (by simp) rfl)
 refine ⟨Loose.wanted_some (d := 11) rfl rfl (show a.tmps.getD 11 undef = .bool true from h11), fun K hK => ?_⟩
 replace h12 : a.tmps.getD 12 undef = (.agg #[.slice (some ⟨gO, 0, none⟩) 4 4]) := h12
 replace h11 : a.tmps.getD 11 undef = (.bool true) := h11
 refine Loose.call_step Try.func16 (by kernel_rfl) rfl #[.agg #[.slice (some ⟨gO, 0, none⟩) 4 4], .slice none 0 0] rfl (by simp [Act.eval, h12]) ((graph_Exact.calls (some ⟨gO, 0, none⟩) 4 (fourL 3 7) none 0 [] [] w (qF.below hI.below).reads (by decide) (Kd.C_nil _ _) (by decide) (by decide +kernel)).mono ?_)
 rintro e w' ⟨v, rfl, hR, hb⟩
 exact ⟨v, rfl, hK v w' hb (Kd.R_lower hR hI.below.size)⟩
set_option maxRecDepth 100000 in
theorem w3step7 (gb gO g1 g2 : Nat) (w0 : World) (a0 : Act) (Q : Exit → Act → World → Prop) (q1 : a0.tmps.getD 1 undef = .pointer (some ⟨gb, 0, none⟩)) (qg : w0.cell? ⟨gb, 0, none⟩ = some (.slice (some ⟨gO, 0, none⟩) 4 4)) (qF : FourAt w0 gO g1 g2 3 7) : ∀ o, w3ops[7]? = some o → Loose.Step Try.prog w3ops (Vk.at (w3tab gb gO g1 g2) w0.heap.size) w0 a0 Q 7 o := by
 intro o ho
 have ho2 : (some ({ dst := some 14, op := Go.Op.call { callee := Go.Callee.value (Go.Operand.func 21), args := #[Go.Operand.tmp 13, Go.Operand.const (Go.Value.slice none 0 0)], argTypes := #[29, 29] }, type := 4, pos := "outright.go:36", after := #[{ on := 6, ground := Go.Ground.data }, { on := 6, ground := Go.Ground.chain }, { on := 4, ground := Go.Ground.guard }], guard := some (4, true) }) : Option Oper) = some o := ho
 obtain rfl := Option.some.inj ho2
 clear ho2 ho
 intro listed a w hd hI
 have h13 : ((.ints []) : Vk).ok w0.heap.size (a.tmps.getD 13 undef) w := hI.has 6 _ 13 rfl rfl (hd ⟨6, .data⟩ (by simp) rfl)
 have h11 : ((.val (.bool true)) : Vk).ok w0.heap.size (a.tmps.getD 11 undef) w := hI.has 4 _ 11 rfl rfl (hd ⟨4, .guard⟩ (by simp) rfl)
 refine ⟨Loose.wanted_some (d := 11) rfl rfl (show a.tmps.getD 11 undef = .bool true from h11), fun K hK => ?_⟩
 replace h11 : a.tmps.getD 11 undef = (.bool true) := h11
 obtain ⟨A, c, e1, hc, hC⟩ := Kd.R_reads h13
 refine Loose.call_step Try.func21 (by kernel_rfl) rfl #[.slice A 0 c, .slice none 0 0] rfl (by simp [Act.eval, e1]) ((eql_calls 10 A c none 0 [] w hC hc (Kd.C_nil _ _) (by decide) (by decide +kernel)).mono ?_)
 rintro e w' ⟨rfl, hb⟩
 exact ⟨_, rfl, hK _ w' hb rfl⟩
set_option maxRecDepth 100000 in
theorem w3step8 (gb gO g1 g2 : Nat) (w0 : World) (a0 : Act) (Q : Exit → Act → World → Prop) (q1 : a0.tmps.getD 1 undef = .pointer (some ⟨gb, 0, none⟩)) (qg : w0.cell? ⟨gb, 0, none⟩ = some (.slice (some ⟨gO, 0, none⟩) 4 4)) (qF : FourAt w0 gO g1 g2 3 7) : ∀ o, w3ops[8]? = some o → Loose.Step Try.prog w3ops (Vk.at (w3tab gb gO g1 g2) w0.heap.size) w0 a0 Q 8 o := by
 intro o ho
 have ho2 : (some ({ dst := some 15, op := Go.Op.pick (Go.Operand.tmp 11) (Go.Operand.tmp 14) (Go.Operand.const (Go.Value.bool false)), type := 4, pos := "outright.go:36", after := #[{ on := 4, ground := Go.Ground.data }, { on := 7, ground := Go.Ground.data }], guard := none }) : Option Oper) = some o := ho
 obtain rfl := Option.some.inj ho2
 clear ho2 ho
 intro listed a w hd hI
 have h11 : ((.val (.bool true)) : Vk).ok w0.heap.size (a.tmps.getD 11 undef) w := hI.has 4 _ 11 rfl rfl (hd ⟨4, .data⟩ (by simp) rfl)
 have h14 : ((.val (.bool true)) : Vk).ok w0.heap.size (a.tmps.getD 14 undef) w := hI.has 7 _ 14 rfl rfl (hd ⟨7, .data⟩ (by simp) rfl)
 refine ⟨Loose.wanted_none rfl _, fun K hK => ?_⟩
 replace h11 : a.tmps.getD 11 undef = (.bool true) := h11
 replace h14 : a.tmps.getD 14 undef = (.bool true) := h14
 refine Loose.value_step (v := .bool true) (w' := w) ?_ (hK _ _ (Below.refl _ _) rfl)
 simp [execOp, go_sem, Act.eval, h11, h14]
set_option maxRecDepth 100000 in
theorem w3step9 (gb gO g1 g2 : Nat) (w0 : World) (a0 : Act) (Q : Exit → Act → World → Prop) (q1 : a0.tmps.getD 1 undef = .pointer (some ⟨gb, 0, none⟩)) (qg : w0.cell? ⟨gb, 0, none⟩ = some (.slice (some ⟨gO, 0, none⟩) 4 4)) (qF : FourAt w0 gO g1 g2 3 7) : ∀ o, w3ops[9]? = some o → Loose.Step Try.prog w3ops (Vk.at (w3tab gb gO g1 g2) w0.heap.size) w0 a0 Q 9 o := by
 intro o ho
 have ho2 : (some ({ dst := some 16, op := Go.Op.move (Go.Operand.tmp 15), type := 4, pos := "outright.go:36", after := #[{ on := 8, ground := Go.Ground.data }, { on := 7, ground := Go.Ground.chain }], guard := none }) : Option Oper) = some o := ho
 obtain rfl := Option.some.inj ho2
 clear ho2 ho
 intro listed a w hd hI
 have h15 : ((.val (.bool true)) : Vk).ok w0.heap.size (a.tmps.getD 15 undef) w := hI.has 8 _ 15 rfl rfl (hd ⟨8, .data⟩ (by simp) rfl)
 refine ⟨Loose.wanted_none rfl _, fun K hK => ?_⟩
 replace h15 : a.tmps.getD 15 undef = (.bool true) := h15
 refine Loose.value_step (v := .bool true) (w' := w) ?_ (hK _ _ (Below.refl _ _) rfl)
 simp [execOp, go_sem, Act.eval, h15]
set_option maxRecDepth 100000 in
theorem w3step10 (gb gO g1 g2 : Nat) (w0 : World) (a0 : Act) (Q : Exit → Act → World → Prop) (q1 : a0.tmps.getD 1 undef = .pointer (some ⟨gb, 0, none⟩)) (qg : w0.cell? ⟨gb, 0, none⟩ = some (.slice (some ⟨gO, 0, none⟩) 4 4)) (qF : FourAt w0 gO g1 g2 3 7) : ∀ o, w3ops[10]? = some o → Loose.Step Try.prog w3ops (Vk.at (w3tab gb gO g1 g2) w0.heap.size) w0 a0 Q 10 o := by
 intro o ho
 have ho2 : (some ({ dst := some 17, op := Go.Op.load 24 (Go.Operand.tmp 1), type := 24, pos := "outright.go:36", after := #[{ on := 9, ground := Go.Ground.guard }], guard := some (9, true) }) : Option Oper) = some o := ho
 obtain rfl := Option.some.inj ho2
 clear ho2 ho
 intro listed a w hd hI
 have h16 : ((.val (.bool true)) : Vk).ok w0.heap.size (a.tmps.getD 16 undef) w := hI.has 9 _ 16 rfl rfl (hd ⟨9, .guard⟩ (by simp) rfl)
 refine ⟨Loose.wanted_some (d := 16) rfl rfl (show a.tmps.getD 16 undef = .bool true from h16), fun K hK => ?_⟩
 replace h16 : a.tmps.getD 16 undef = (.bool true) := h16
 have e1 : a.tmps.getD 1 undef = .pointer (some ⟨gb, 0, none⟩) := (hI.others 1 (Loose.no_dst (by kernel_rfl))).trans q1
 have hc := cell_below (hI.below) qg
 refine Loose.value_step (v := .agg #[.slice (some ⟨gO, 0, none⟩) 4 4]) (w' := w) ?_ (hK _ _ (Below.refl _ _) rfl)
 unfold execOp
 simp only [Act.eval, e1]
 go_simp
set_option maxRecDepth 100000 in
theorem w3step11 (gb gO g1 g2 : Nat) (w0 : World) (a0 : Act) (Q : Exit → Act → World → Prop) (q1 : a0.tmps.getD 1 undef = .pointer (some ⟨gb, 0, none⟩)) (qg : w0.cell? ⟨gb, 0, none⟩ = some (.slice (some ⟨gO, 0, none⟩) 4 4)) (qF : FourAt w0 gO g1 g2 3 7) : ∀ o, w3ops[11]? = some o → Loose.Step Try.prog w3ops (Vk.at (w3tab gb gO g1 g2) w0.heap.size) w0 a0 Q 11 o := by
 intro o ho
 have ho2 : (some ({ dst := some 18, op := Go.Op.call { callee := Go.Callee.value (Go.Operand.func 22), args := #[Go.Operand.const (Go.Value.int Go.IntKind.i64 9), Go.Operand.const (Go.Value.int Go.IntKind.i64 4)], argTypes := #[3, 2] }, type := 40, pos := "outright.go:36", after := #[{ on := 9, ground := Go.Ground.chain }, { on := 9, ground := Go.Ground.guard }], guard := some (9, true) }) : Option Oper) = some o := ho
 obtain rfl := Option.some.inj ho2
 clear ho2 ho
 intro listed a w hd hI
 have h16 : ((.val (.bool true)) : Vk).ok w0.heap.size (a.tmps.getD 16 undef) w := hI.has 9 _ 16 rfl rfl (hd ⟨9, .guard⟩ (by simp) rfl)
 refine ⟨Loose.wanted_some (d := 16) rfl rfl (show a.tmps.getD 16 undef = .bool true from h16), fun K hK => ?_⟩
 replace h16 : a.tmps.getD 16 undef = (.bool true) := h16
 refine Loose.call_step Try.func22 (by kernel_rfl) rfl #[.int .i64 9, .int .i64 4] rfl (by simp [Act.eval]) ((tallowlaw10_of.calls 9 4 9 4 w rfl).mono ?_)
 rintro e w' ⟨rfl, hb⟩
 exact ⟨_, rfl, hK _ w' hb rfl⟩
set_option maxRecDepth 100000 in
theorem w3step12 (gb gO g1 g2 : Nat) (w0 : World) (a0 : Act) (Q : Exit → Act → World → Prop) (q1 : a0.tmps.getD 1 undef = .pointer (some ⟨gb, 0, none⟩)) (qg : w0.cell? ⟨gb, 0, none⟩ = some (.slice (some ⟨gO, 0, none⟩) 4 4)) (qF : FourAt w0 gO g1 g2 3 7) : ∀ o, w3ops[12]? = some o → Loose.Step Try.prog w3ops (Vk.at (w3tab gb gO g1 g2) w0.heap.size) w0 a0 Q 12 o := by
 intro o ho
 have ho2 : (some ({ dst := some 19, op := Go.Op.call { callee := Go.Callee.value (Go.Operand.func 22), args := #[Go.Operand.const (Go.Value.int Go.IntKind.i64 5), Go.Operand.const (Go.Value.int Go.IntKind.i64 1)], argTypes := #[3, 2] }, type := 40, pos := "outright.go:36", after := #[{ on := 11, ground := Go.Ground.chain }, { on := 9, ground := Go.Ground.guard }], guard := some (9, true) }) : Option Oper) = some o := ho
 obtain rfl := Option.some.inj ho2
 clear ho2 ho
 intro listed a w hd hI
 have h16 : ((.val (.bool true)) : Vk).ok w0.heap.size (a.tmps.getD 16 undef) w := hI.has 9 _ 16 rfl rfl (hd ⟨9, .guard⟩ (by simp) rfl)
 refine ⟨Loose.wanted_some (d := 16) rfl rfl (show a.tmps.getD 16 undef = .bool true from h16), fun K hK => ?_⟩
 replace h16 : a.tmps.getD 16 undef = (.bool true) := h16
 refine Loose.call_step Try.func22 (by kernel_rfl) rfl #[.int .i64 5, .int .i64 1] rfl (by simp [Act.eval]) ((tallowlaw10_of.calls 5 1 5 1 w rfl).mono ?_)
 rintro e w' ⟨rfl, hb⟩
 exact ⟨_, rfl, hK _ w' hb rfl⟩
set_option maxRecDepth 100000 in
theorem w3step13 (gb gO g1 g2 : Nat) (w0 : World) (a0 : Act) (Q : Exit → Act → World → Prop) (q1 : a0.tmps.getD 1 undef = .pointer (some ⟨gb, 0, none⟩)) (qg : w0.cell? ⟨gb, 0, none⟩ = some (.slice (some ⟨gO, 0, none⟩) 4 4)) (qF : FourAt w0 gO g1 g2 3 7) : ∀ o, w3ops[13]? = some o → Loose.Step Try.prog w3ops (Vk.at (w3tab gb gO g1 g2) w0.heap.size) w0 a0 Q 13 o := by
 intro o ho
 have ho2 : (some ({ dst := some 20, op := Go.Op.call { callee := Go.Callee.value (Go.Operand.func 22), args := #[Go.Operand.const (Go.Value.int Go.IntKind.i64 3), Go.Operand.const (Go.Value.int Go.IntKind.i64 5)], argTypes := #[3, 2] }, type := 40, pos := "outright.go:36", after := #[{ on := 12, ground := Go.Ground.chain }, { on := 9, ground := Go.Ground.guard }], guard := some (9, true) }) : Option Oper) = some o := ho
 obtain rfl := Option.some.inj ho2
 clear ho2 ho
 intro listed a w hd hI
 have h16 : ((.val (.bool true)) : Vk).ok w0.heap.size (a.tmps.getD 16 undef) w := hI.has 9 _ 16 rfl rfl (hd ⟨9, .guard⟩ (by simp) rfl)
 refine ⟨Loose.wanted_some (d := 16) rfl rfl (show a.tmps.getD 16 undef = .bool true from h16), fun K hK => ?_⟩
 replace h16 : a.tmps.getD 16 undef = (.bool true) := h16
 refine Loose.call_step Try.func22 (by kernel_rfl) rfl #[.int .i64 3, .int .i64 5] rfl (by simp [Act.eval]) ((tallowlaw10_of.calls 3 5 3 5 w rfl).mono ?_)
 rintro e w' ⟨rfl, hb⟩
 exact ⟨_, rfl, hK _ w' hb rfl⟩
set_option maxRecDepth 100000 in
theorem w3step14 (gb gO g1 g2 : Nat) (w0 : World) (a0 : Act) (Q : Exit → Act → World → Prop) (q1 : a0.tmps.getD 1 undef = .pointer (some ⟨gb, 0, none⟩)) (qg : w0.cell? ⟨gb, 0, none⟩ = some (.slice (some ⟨gO, 0, none⟩) 4 4)) (qF : FourAt w0 gO g1 g2 3 7) : ∀ o, w3ops[14]? = some o → Loose.Step Try.prog w3ops (Vk.at (w3tab gb gO g1 g2) w0.heap.size) w0 a0 Q 14 o := by
 intro o ho
 have ho2 : (some ({ dst := some 21, op := Go.Op.buildSlice 27 3 #[(0, Go.Operand.tmp 18), (1, Go.Operand.tmp 19), (2, Go.Operand.tmp 20)], type := 27, pos := "outright.go:36", after := #[{ on := 11, ground := Go.Ground.data }, { on := 12, ground := Go.Ground.data }, { on := 13, ground := Go.Ground.data }, { on := 9, ground := Go.Ground.guard }], guard := some (9, true) }) : Option Oper) = some o := ho
 obtain rfl := Option.some.inj ho2
 clear ho2 ho
 intro listed a w hd hI
 have h18 : ((.val (.agg #[.int .i64 9, .int .i64 4])) : Vk).ok w0.heap.size (a.tmps.getD 18 undef) w := hI.has 11 _ 18 rfl rfl (hd ⟨11, .data⟩ (by simp) rfl)
 have h19 : ((.val (.agg #[.int .i64 5, .int .i64 1])) : Vk).ok w0.heap.size (a.tmps.getD 19 undef) w := hI.has 12 _ 19 rfl rfl (hd ⟨12, .data⟩ (by simp) rfl)
 have h20 : ((.val (.agg #[.int .i64 3, .int .i64 5])) : Vk).ok w0.heap.size (a.tmps.getD 20 undef) w := hI.has 13 _ 20 rfl rfl (hd ⟨13, .data⟩ (by simp) rfl)
 have h16 : ((.val (.bool true)) : Vk).ok w0.heap.size (a.tmps.getD 16 undef) w := hI.has 9 _ 16 rfl rfl (hd ⟨9, .guard⟩ (by simp) rfl)
 refine ⟨Loose.wanted_some (d := 16) rfl rfl (show a.tmps.getD 16 undef = .bool true from h16), fun K hK => ?_⟩
 replace h18 : a.tmps.getD 18 undef = (.agg #[.int .i64 9, .int .i64 4]) := h18
 replace h19 : a.tmps.getD 19 undef = (.agg #[.int .i64 5, .int .i64 1]) := h19
 replace h20 : a.tmps.getD 20 undef = (.agg #[.int .i64 3, .int .i64 5]) := h20
 replace h16 : a.tmps.getD 16 undef = (.bool true) := h16
 refine Loose.value_step (v := .slice (some ⟨w.heap.size, 0, none⟩) 3 3) (w' := w.alloc (.cells #[.int .i64 9, .int .i64 4, .int .i64 5, .int .i64 1, .int .i64 3, .int .i64 5] 40)) ?_ (hK _ _ (below_alloc (Below.refl _ _) _) ⟨w.heap.size, rfl, blk_new _ _⟩)
 unfold execOp
 simp only [Act.eval, List.map_toArray, List.map_cons, List.map_nil, h18, h19, h20]
 go_simp
set_option maxRecDepth 100000 in
theorem w3step15 (gb gO g1 g2 : Nat) (w0 : World) (a0 : Act) (Q : Exit → Act → World → Prop) (q1 : a0.tmps.getD 1 undef = .pointer (some ⟨gb, 0, none⟩)) (qg : w0.cell? ⟨gb, 0, none⟩ = some (.slice (some ⟨gO, 0, none⟩) 4 4)) (qF : FourAt w0 gO g1 g2 3 7) : ∀ o, w3ops[15]? = some o → Loose.Step Try.prog w3ops (Vk.at (w3tab gb gO g1 g2) w0.heap.size) w0 a0 Q 15 o := by
 intro o ho
 have ho2 : (some ({ dst := some 22, op := Go.Op.call { callee := Go.Callee.value (Go.Operand.func 16), args := #[Go.Operand.tmp 17, Go.Operand.tmp 21], argTypes := #[24, 27] }, type := 29, pos := "outright.go:36", after := #[{ on := 10, ground := Go.Ground.data }, { on := 14, ground := Go.Ground.data }, { on := 13, ground := Go.Ground.chain }, { on := 9, ground := Go.Ground.guard }], guard := some (9, true) }) : Option Oper) = some o := ho
 obtain rfl := Option.some.inj ho2
 clear ho2 ho
 intro listed a w hd hI
 have h17 : ((.val (.agg #[.slice (some ⟨gO, 0, none⟩) 4 4])) : Vk).ok w0.heap.size (a.tmps.getD 17 undef) w := hI.has 10 _ 17 rfl rfl (hd ⟨10, .data⟩ (by simp) rfl)
 have h21 : ((.blk #[.int .i64 9, .int .i64 4, .int .i64 5, .int .i64 1, .int .i64 3, .int .i64 5] 3 40) : Vk).ok w0.heap.size (a.tmps.getD 21 undef) w := hI.has 14 _ 21 rfl rfl (hd ⟨14, .data⟩ (by simp) rfl)
 have h16 : ((.val (.bool true)) : Vk).ok w0.heap.size (a.tmps.getD 16 undef) w := hI.has 9 _ 16 rfl rfl (hd ⟨9, .guard⟩ (by simp) rfl)
 refine ⟨Loose.wanted_some (d := 16) rfl rfl (show a.tmps.getD 16 undef = .bool true from h16), fun K hK => ?_⟩
 replace h17 : a.tmps.getD 17 undef = (.agg #[.slice (some ⟨gO, 0, none⟩) 4 4]) := h17
 replace h16 : a.tmps.getD 16 undef = (.bool true) := h16
 obtain ⟨g, e2, hh⟩ := h21
 have hD := C40_lit hh [⟨9, 4⟩, ⟨5, 1⟩, ⟨3, 5⟩] (by decide) rfl
 refine Loose.call_step Try.func16 (by kernel_rfl) rfl #[.agg #[.slice (some ⟨gO, 0, none⟩) 4 4], .slice (some ⟨g, 0, none⟩) 3 3] rfl (by simp [Act.eval, h17, e2]) ((graph_Exact.calls (some ⟨gO, 0, none⟩) 4 (fourL 3 7) (some ⟨g, 0, none⟩) 3 [⟨9, 4⟩, ⟨5, 1⟩, ⟨3, 5⟩] [1, 4] w (qF.below hI.below).reads (by decide) hD (by decide) (by decide +kernel)).mono ?_)
 rintro e w' ⟨v, rfl, hR, hb⟩
 exact ⟨v, rfl, hK v w' hb (Kd.R_lower hR hI.below.size)⟩
set_option maxRecDepth 100000 in
theorem w3step16 (gb gO g1 g2 : Nat) (w0 : World) (a0 : Act) (Q : Exit → Act → World → Prop) (q1 : a0.tmps.getD 1 undef = .pointer (some ⟨gb, 0, none⟩)) (qg : w0.cell? ⟨gb, 0, none⟩ = some (.slice (some ⟨gO, 0, none⟩) 4 4)) (qF : FourAt w0 gO g1 g2 3 7) : ∀ o, w3ops[16]? = some o → Loose.Step Try.prog w3ops (Vk.at (w3tab gb gO g1 g2) w0.heap.size) w0 a0 Q 16 o := by
 intro o ho
 have ho2 : (some ({ dst := some 23, op := Go.Op.buildSlice 29 2 #[(0, Go.Operand.const (Go.Value.int Go.IntKind.i64 1)), (1, Go.Operand.const (Go.Value.int Go.IntKind.i64 4))], type := 29, pos := "outright.go:36", after := #[{ on := 9, ground := Go.Ground.guard }], guard := some (9, true) }) : Option Oper) = some o := ho
 obtain rfl := Option.some.inj ho2
 clear ho2 ho
 intro listed a w hd hI
 have h16 : ((.val (.bool true)) : Vk).ok w0.heap.size (a.tmps.getD 16 undef) w := hI.has 9 _ 16 rfl rfl (hd ⟨9, .guard⟩ (by simp) rfl)
 refine ⟨Loose.wanted_some (d := 16) rfl rfl (show a.tmps.getD 16 undef = .bool true from h16), fun K hK => ?_⟩
 replace h16 : a.tmps.getD 16 undef = (.bool true) := h16
 refine Loose.value_step (v := .slice (some ⟨w.heap.size, 0, none⟩) 2 2) (w' := w.alloc (.cells #[.int .i64 1, .int .i64 4] 3)) ?_ (hK _ _ (below_alloc (Below.refl _ _) _) ⟨w.heap.size, rfl, blk_new _ _⟩)
 unfold execOp
 simp only [Act.eval, List.map_toArray, List.map_cons, List.map_nil]
 go_simp
set_option maxRecDepth 100000 in
theorem w3step17 (gb gO g1 g2 : Nat) (w0 : World) (a0 : Act) (Q : Exit → Act → World → Prop) (q1 : a0.tmps.getD 1 undef = .pointer (some ⟨gb, 0, none⟩)) (qg : w0.cell? ⟨gb, 0, none⟩ = some (.slice (some ⟨gO, 0, none⟩) 4 4)) (qF : FourAt w0 gO g1 g2 3 7) : ∀ o, w3ops[17]? = some o → Loose.Step Try.prog w3ops (Vk.at (w3tab gb gO g1 g2) w0.heap.size) w0 a0 Q 17 o := by
 intro o ho
 have ho2 : (some ({ dst := some 24, op := Go.Op.call { callee := Go.Callee.value (Go.Operand.func 21), args := #[Go.Operand.tmp 22, Go.Operand.tmp 23], argTypes := #[29, 29] }, type := 4, pos := "outright.go:36", after := #[{ on := 15, ground := Go.Ground.data }, { on := 16, ground := Go.Ground.data }, { on := 15, ground := Go.Ground.chain }, { on := 9, ground := Go.Ground.guard }], guard := some (9, true) }) : Option Oper) = some o := ho
 obtain rfl := Option.some.inj ho2
 clear ho2 ho
 intro listed a w hd hI
 have h22 : ((.ints [1, 4]) : Vk).ok w0.heap.size (a.tmps.getD 22 undef) w := hI.has 15 _ 22 rfl rfl (hd ⟨15, .data⟩ (by simp) rfl)
 have h23 : ((.blk #[.int .i64 1, .int .i64 4] 2 3) : Vk).ok w0.heap.size (a.tmps.getD 23 undef) w := hI.has 16 _ 23 rfl rfl (hd ⟨16, .data⟩ (by simp) rfl)
 have h16 : ((.val (.bool true)) : Vk).ok w0.heap.size (a.tmps.getD 16 undef) w := hI.has 9 _ 16 rfl rfl (hd ⟨9, .guard⟩ (by simp) rfl)
 refine ⟨Loose.wanted_some (d := 16) rfl rfl (show a.tmps.getD 16 undef = .bool true from h16), fun K hK => ?_⟩
 replace h16 : a.tmps.getD 16 undef = (.bool true) := h16
 obtain ⟨g, e2, hh⟩ := h23
 obtain ⟨A, c, e1, hc, hC⟩ := Kd.R_reads h22
 have hD := ints_lit hh [1, 4] (by decide) rfl
 refine Loose.call_step Try.func21 (by kernel_rfl) rfl #[.slice A 2 c, .slice (some ⟨g, 0, none⟩) 2 2] rfl (by simp [Act.eval, e1, e2]) ((eql_calls 10 A c (some ⟨g, 0, none⟩) 2 [1, 4] w hC hc hD (by decide) (by decide +kernel)).mono ?_)
 rintro e w' ⟨rfl, hb⟩
 exact ⟨_, rfl, hK _ w' hb rfl⟩
set_option maxRecDepth 100000 in
theorem w3step18 (gb gO g1 g2 : Nat) (w0 : World) (a0 : Act) (Q : Exit → Act → World → Prop) (q1 : a0.tmps.getD 1 undef = .pointer (some ⟨gb, 0, none⟩)) (qg : w0.cell? ⟨gb, 0, none⟩ = some (.slice (some ⟨gO, 0, none⟩) 4 4)) (qF : FourAt w0 gO g1 g2 3 7) : ∀ o, w3ops[18]? = some o → Loose.Step Try.prog w3ops (Vk.at (w3tab gb gO g1 g2) w0.heap.size) w0 a0 Q 18 o := by
 intro o ho
 have ho2 : (some ({ dst := some 25, op := Go.Op.pick (Go.Operand.tmp 16) (Go.Operand.tmp 24) (Go.Operand.const (Go.Value.bool false)), type := 4, pos := "outright.go:36", after := #[{ on := 9, ground := Go.Ground.data }, { on := 17, ground := Go.Ground.data }], guard := none }) : Option Oper) = some o := ho
 obtain rfl := Option.some.inj ho2
 clear ho2 ho
 intro listed a w hd hI
 have h16 : ((.val (.bool true)) : Vk).ok w0.heap.size (a.tmps.getD 16 undef) w := hI.has 9 _ 16 rfl rfl (hd ⟨9, .data⟩ (by simp) rfl)
 have h24 : ((.val (.bool true)) : Vk).ok w0.heap.size (a.tmps.getD 24 undef) w := hI.has 17 _ 24 rfl rfl (hd ⟨17, .data⟩ (by simp) rfl)
 refine ⟨Loose.wanted_none rfl _, fun K hK => ?_⟩
 replace h16 : a.tmps.getD 16 undef = (.bool true) := h16
 replace h24 : a.tmps.getD 24 undef = (.bool true) := h24
 refine Loose.value_step (v := .bool true) (w' := w) ?_ (hK _ _ (Below.refl _ _) rfl)
 simp [execOp, go_sem, Act.eval, h16, h24]
set_option maxRecDepth 100000 in
theorem w3step19 (gb gO g1 g2 : Nat) (w0 : World) (a0 : Act) (Q : Exit → Act → World → Prop) (q1 : a0.tmps.getD 1 undef = .pointer (some ⟨gb, 0, none⟩)) (qg : w0.cell? ⟨gb, 0, none⟩ = some (.slice (some ⟨gO, 0, none⟩) 4 4)) (qF : FourAt w0 gO g1 g2 3 7) : ∀ o, w3ops[19]? = some o → Loose.Step Try.prog w3ops (Vk.at (w3tab gb gO g1 g2) w0.heap.size) w0 a0 Q 19 o := by
 intro o ho
 have ho2 : (some ({ dst := some 26, op := Go.Op.move (Go.Operand.tmp 25), type := 4, pos := "outright.go:36", after := #[{ on := 18, ground := Go.Ground.data }, { on := 17, ground := Go.Ground.chain }], guard := none }) : Option Oper) = some o := ho
 obtain rfl := Option.some.inj ho2
 clear ho2 ho
 intro listed a w hd hI
 have h25 : ((.val (.bool true)) : Vk).ok w0.heap.size (a.tmps.getD 25 undef) w := hI.has 18 _ 25 rfl rfl (hd ⟨18, .data⟩ (by simp) rfl)
 refine ⟨Loose.wanted_none rfl _, fun K hK => ?_⟩
 replace h25 : a.tmps.getD 25 undef = (.bool true) := h25
 refine Loose.value_step (v := .bool true) (w' := w) ?_ (hK _ _ (Below.refl _ _) rfl)
 simp [execOp, go_sem, Act.eval, h25]
set_option maxRecDepth 100000 in
theorem w3step20 (gb gO g1 g2 : Nat) (w0 : World) (a0 : Act) (Q : Exit → Act → World → Prop) (q1 : a0.tmps.getD 1 undef = .pointer (some ⟨gb, 0, none⟩)) (qg : w0.cell? ⟨gb, 0, none⟩ = some (.slice (some ⟨gO, 0, none⟩) 4 4)) (qF : FourAt w0 gO g1 g2 3 7) : ∀ o, w3ops[20]? = some o → Loose.Step Try.prog w3ops (Vk.at (w3tab gb gO g1 g2) w0.heap.size) w0 a0 Q 20 o := by
 intro o ho
 have ho2 : (some ({ dst := some 27, op := Go.Op.load 24 (Go.Operand.tmp 1), type := 24, pos := "outright.go:36", after := #[{ on := 19, ground := Go.Ground.guard }], guard := some (19, true) }) : Option Oper) = some o := ho
 obtain rfl := Option.some.inj ho2
 clear ho2 ho
 intro listed a w hd hI
 have h26 : ((.val (.bool true)) : Vk).ok w0.heap.size (a.tmps.getD 26 undef) w := hI.has 19 _ 26 rfl rfl (hd ⟨19, .guard⟩ (by simp) rfl)
 refine ⟨Loose.wanted_some (d := 26) rfl rfl (show a.tmps.getD 26 undef = .bool true from h26), fun K hK => ?_⟩
 replace h26 : a.tmps.getD 26 undef = (.bool true) := h26
 have e1 : a.tmps.getD 1 undef = .pointer (some ⟨gb, 0, none⟩) := (hI.others 1 (Loose.no_dst (by kernel_rfl))).trans q1
 have hc := cell_below (hI.below) qg
 refine Loose.value_step (v := .agg #[.slice (some ⟨gO, 0, none⟩) 4 4]) (w' := w) ?_ (hK _ _ (Below.refl _ _) rfl)
 unfold execOp
 simp only [Act.eval, e1]
 go_simp
set_option maxRecDepth 100000 in
theorem w3step21 (gb gO g1 g2 : Nat) (w0 : World) (a0 : Act) (Q : Exit → Act → World → Prop) (q1 : a0.tmps.getD 1 undef = .pointer (some ⟨gb, 0, none⟩)) (qg : w0.cell? ⟨gb, 0, none⟩ = some (.slice (some ⟨gO, 0, none⟩) 4 4)) (qF : FourAt w0 gO g1 g2 3 7) : ∀ o, w3ops[21]? = some o → Loose.Step Try.prog w3ops (Vk.at (w3tab gb gO g1 g2) w0.heap.size) w0 a0 Q 21 o := by
 intro o ho
 have ho2 : (some ({ dst := some 28, op := Go.Op.call { callee := Go.Callee.value (Go.Operand.func 18), args := #[Go.Operand.tmp 27, Go.Operand.const (Go.Value.int Go.IntKind.i64 1)], argTypes := #[24, 3] }, type := 29, pos := "outright.go:36", after := #[{ on := 20, ground := Go.Ground.data }, { on := 19, ground := Go.Ground.chain }, { on := 19, ground := Go.Ground.guard }], guard := some (19, true) }) : Option Oper) = some o := ho
 obtain rfl := Option.some.inj ho2
 clear ho2 ho
 intro listed a w hd hI
 have h27 : ((.val (.agg #[.slice (some ⟨gO, 0, none⟩) 4 4])) : Vk).ok w0.heap.size (a.tmps.getD 27 undef) w := hI.has 20 _ 27 rfl rfl (hd ⟨20, .data⟩ (by simp) rfl)
 have h26 : ((.val (.bool true)) : Vk).ok w0.heap.size (a.tmps.getD 26 undef) w := hI.has 19 _ 26 rfl rfl (hd ⟨19, .guard⟩ (by simp) rfl)
 refine ⟨Loose.wanted_some (d := 26) rfl rfl (show a.tmps.getD 26 undef = .bool true from h26), fun K hK => ?_⟩
 replace h27 : a.tmps.getD 27 undef = (.agg #[.slice (some ⟨gO, 0, none⟩) 4 4]) := h27
 replace h26 : a.tmps.getD 26 undef = (.bool true) := h26
 refine Loose.call_step Try.func18 (by kernel_rfl) rfl #[.agg #[.slice (some ⟨gO, 0, none⟩) 4 4], .int .i64 1] rfl (by simp [Act.eval, h27]) ((graph_Holders.calls 10 (some ⟨gO, 0, none⟩) 4 (fourL 3 7) 1 [2, 4] w (qF.below hI.below).reads (by decide) (by decide +kernel)).mono ?_)
 rintro e w' ⟨v, rfl, hR, hb⟩
 exact ⟨v, rfl, hK v w' hb (Kd.R_lower hR hI.below.size)⟩
set_option maxRecDepth 100000 in
theorem w3step22 (gb gO g1 g2 : Nat) (w0 : World) (a0 : Act) (Q : Exit → Act → World → Prop) (q1 : a0.tmps.getD 1 undef = .pointer (some ⟨gb, 0, none⟩)) (qg : w0.cell? ⟨gb, 0, none⟩ = some (.slice (some ⟨gO, 0, none⟩) 4 4)) (qF : FourAt w0 gO g1 g2 3 7) : ∀ o, w3ops[22]? = some o → Loose.Step Try.prog w3ops (Vk.at (w3tab gb gO g1 g2) w0.heap.size) w0 a0 Q 22 o := by
 intro o ho
 have ho2 : (some ({ dst := some 29, op := Go.Op.buildSlice 29 2 #[(0, Go.Operand.const (Go.Value.int Go.IntKind.i64 2)), (1, Go.Operand.const (Go.Value.int Go.IntKind.i64 4))], type := 29, pos := "outright.go:36", after := #[{ on := 19, ground := Go.Ground.guard }], guard := some (19, true) }) : Option Oper) = some o := ho
 obtain rfl := Option.some.inj ho2
 clear ho2 ho
 intro listed a w hd hI
 have h26 : ((.val (.bool true)) : Vk).ok w0.heap.size (a.tmps.getD 26 undef) w := hI.has 19 _ 26 rfl rfl (hd ⟨19, .guard⟩ (by simp) rfl)
 refine ⟨Loose.wanted_some (d := 26) rfl rfl (show a.tmps.getD 26 undef = .bool true from h26), fun K hK => ?_⟩
 replace h26 : a.tmps.getD 26 undef = (.bool true) := h26
 refine Loose.value_step (v := .slice (some ⟨w.heap.size, 0, none⟩) 2 2) (w' := w.alloc (.cells #[.int .i64 2, .int .i64 4] 3)) ?_ (hK _ _ (below_alloc (Below.refl _ _) _) ⟨w.heap.size, rfl, blk_new _ _⟩)
 unfold execOp
 simp only [Act.eval, List.map_toArray, List.map_cons, List.map_nil]
 go_simp
set_option maxRecDepth 100000 in
theorem w3step23 (gb gO g1 g2 : Nat) (w0 : World) (a0 : Act) (Q : Exit → Act → World → Prop) (q1 : a0.tmps.getD 1 undef = .pointer (some ⟨gb, 0, none⟩)) (qg : w0.cell? ⟨gb, 0, none⟩ = some (.slice (some ⟨gO, 0, none⟩) 4 4)) (qF : FourAt w0 gO g1 g2 3 7) : ∀ o, w3ops[23]? = some o → Loose.Step Try.prog w3ops (Vk.at (w3tab gb gO g1 g2) w0.heap.size) w0 a0 Q 23 o := by
 intro o ho
 have ho2 : (some ({ dst := some 30, op := Go.Op.call { callee := Go.Callee.value (Go.Operand.func 21), args := #[Go.Operand.tmp 28, Go.Operand.tmp 29], argTypes := #[29, 29] }, type := 4, pos := "outright.go:36", after := #[{ on := 21, ground := Go.Ground.data }, { on := 22, ground := Go.Ground.data }, { on := 21, ground := Go.Ground.chain }, { on := 19, ground := Go.Ground.guard }], guard := some (19, true) }) : Option Oper) = some o := ho
 obtain rfl := Option.some.inj ho2
 clear ho2 ho
 intro listed a w hd hI
 have h28 : ((.ints [2, 4]) : Vk).ok w0.heap.size (a.tmps.getD 28 undef) w := hI.has 21 _ 28 rfl rfl (hd ⟨21, .data⟩ (by simp) rfl)
 have h29 : ((.blk #[.int .i64 2, .int .i64 4] 2 3) : Vk).ok w0.heap.size (a.tmps.getD 29 undef) w := hI.has 22 _ 29 rfl rfl (hd ⟨22, .data⟩ (by simp) rfl)
 have h26 : ((.val (.bool true)) : Vk).ok w0.heap.size (a.tmps.getD 26 undef) w := hI.has 19 _ 26 rfl rfl (hd ⟨19, .guard⟩ (by simp) rfl)
 refine ⟨Loose.wanted_some (d := 26) rfl rfl (show a.tmps.getD 26 undef = .bool true from h26), fun K hK => ?_⟩
 replace h26 : a.tmps.getD 26 undef = (.bool true) := h26
 obtain ⟨g, e2, hh⟩ := h29
 obtain ⟨A, c, e1, hc, hC⟩ := Kd.R_reads h28
 have hD := ints_lit hh [2, 4] (by decide) rfl
 refine Loose.call_step Try.func21 (by kernel_rfl) rfl #[.slice A 2 c, .slice (some ⟨g, 0, none⟩) 2 2] rfl (by simp [Act.eval, e1, e2]) ((eql_calls 10 A c (some ⟨g, 0, none⟩) 2 [2, 4] w hC hc hD (by decide) (by decide +kernel)).mono ?_)
 rintro e w' ⟨rfl, hb⟩
 exact ⟨_, rfl, hK _ w' hb rfl⟩
set_option maxRecDepth 100000 in
theorem w3step24 (gb gO g1 g2 : Nat) (w0 : World) (a0 : Act) (Q : Exit → Act → World → Prop) (q1 : a0.tmps.getD 1 undef = .pointer (some ⟨gb, 0, none⟩)) (qg : w0.cell? ⟨gb, 0, none⟩ = some (.slice (some ⟨gO, 0, none⟩) 4 4)) (qF : FourAt w0 gO g1 g2 3 7) : ∀ o, w3ops[24]? = some o → Loose.Step Try.prog w3ops (Vk.at (w3tab gb gO g1 g2) w0.heap.size) w0 a0 Q 24 o := by
 intro o ho
 have ho2 : (some ({ dst := some 31, op := Go.Op.pick (Go.Operand.tmp 26) (Go.Operand.tmp 30) (Go.Operand.const (Go.Value.bool false)), type := 4, pos := "outright.go:36", after := #[{ on := 19, ground := Go.Ground.data }, { on := 23, ground := Go.Ground.data }], guard := none }) : Option Oper) = some o := ho
 obtain rfl := Option.some.inj ho2
 clear ho2 ho
 intro listed a w hd hI
 have h26 : ((.val (.bool true)) : Vk).ok w0.heap.size (a.tmps.getD 26 undef) w := hI.has 19 _ 26 rfl rfl (hd ⟨19, .data⟩ (by simp) rfl)
 have h30 : ((.val (.bool true)) : Vk).ok w0.heap.size (a.tmps.getD 30 undef) w := hI.has 23 _ 30 rfl rfl (hd ⟨23, .data⟩ (by simp) rfl)
 refine ⟨Loose.wanted_none rfl _, fun K hK => ?_⟩
 replace h26 : a.tmps.getD 26 undef = (.bool true) := h26
 replace h30 : a.tmps.getD 30 undef = (.bool true) := h30
 refine Loose.value_step (v := .bool true) (w' := w) ?_ (hK _ _ (Below.refl _ _) rfl)
 simp [execOp, go_sem, Act.eval, h26, h30]
set_option maxRecDepth 100000 in
theorem w3step25 (gb gO g1 g2 : Nat) (w0 : World) (a0 : Act) (Q : Exit → Act → World → Prop) (q1 : a0.tmps.getD 1 undef = .pointer (some ⟨gb, 0, none⟩)) (qg : w0.cell? ⟨gb, 0, none⟩ = some (.slice (some ⟨gO, 0, none⟩) 4 4)) (qF : FourAt w0 gO g1 g2 3 7) : ∀ o, w3ops[25]? = some o → Loose.Step Try.prog w3ops (Vk.at (w3tab gb gO g1 g2) w0.heap.size) w0 a0 Q 25 o := by
 intro o ho
 have ho2 : (some ({ dst := some 32, op := Go.Op.move (Go.Operand.tmp 31), type := 4, pos := "outright.go:36", after := #[{ on := 24, ground := Go.Ground.data }, { on := 23, ground := Go.Ground.chain }], guard := none }) : Option Oper) = some o := ho
 obtain rfl := Option.some.inj ho2
 clear ho2 ho
 intro listed a w hd hI
 have h31 : ((.val (.bool true)) : Vk).ok w0.heap.size (a.tmps.getD 31 undef) w := hI.has 24 _ 31 rfl rfl (hd ⟨24, .data⟩ (by simp) rfl)
 refine ⟨Loose.wanted_none rfl _, fun K hK => ?_⟩
 replace h31 : a.tmps.getD 31 undef = (.bool true) := h31
 refine Loose.value_step (v := .bool true) (w' := w) ?_ (hK _ _ (Below.refl _ _) rfl)
 simp [execOp, go_sem, Act.eval, h31]
set_option maxRecDepth 100000 in
theorem w3step26 (gb gO g1 g2 : Nat) (w0 : World) (a0 : Act) (Q : Exit → Act → World → Prop) (q1 : a0.tmps.getD 1 undef = .pointer (some ⟨gb, 0, none⟩)) (qg : w0.cell? ⟨gb, 0, none⟩ = some (.slice (some ⟨gO, 0, none⟩) 4 4)) (qF : FourAt w0 gO g1 g2 3 7) : ∀ o, w3ops[26]? = some o → Loose.Step Try.prog w3ops (Vk.at (w3tab gb gO g1 g2) w0.heap.size) w0 a0 Q 26 o := by
 intro o ho
 have ho2 : (some ({ dst := some 33, op := Go.Op.load 24 (Go.Operand.tmp 1), type := 24, pos := "outright.go:36", after := #[{ on := 25, ground := Go.Ground.guard }], guard := some (25, true) }) : Option Oper) = some o := ho
 obtain rfl := Option.some.inj ho2
 clear ho2 ho
 intro listed a w hd hI
 have h32 : ((.val (.bool true)) : Vk).ok w0.heap.size (a.tmps.getD 32 undef) w := hI.has 25 _ 32 rfl rfl (hd ⟨25, .guard⟩ (by simp) rfl)
 refine ⟨Loose.wanted_some (d := 32) rfl rfl (show a.tmps.getD 32 undef = .bool true from h32), fun K hK => ?_⟩
 replace h32 : a.tmps.getD 32 undef = (.bool true) := h32
 have e1 : a.tmps.getD 1 undef = .pointer (some ⟨gb, 0, none⟩) := (hI.others 1 (Loose.no_dst (by kernel_rfl))).trans q1
 have hc := cell_below (hI.below) qg
 refine Loose.value_step (v := .agg #[.slice (some ⟨gO, 0, none⟩) 4 4]) (w' := w) ?_ (hK _ _ (Below.refl _ _) rfl)
 unfold execOp
 simp only [Act.eval, e1]
 go_simp
set_option maxRecDepth 100000 in
theorem w3step27 (gb gO g1 g2 : Nat) (w0 : World) (a0 : Act) (Q : Exit → Act → World → Prop) (q1 : a0.tmps.getD 1 undef = .pointer (some ⟨gb, 0, none⟩)) (qg : w0.cell? ⟨gb, 0, none⟩ = some (.slice (some ⟨gO, 0, none⟩) 4 4)) (qF : FourAt w0 gO g1 g2 3 7) : ∀ o, w3ops[27]? = some o → Loose.Step Try.prog w3ops (Vk.at (w3tab gb gO g1 g2) w0.heap.size) w0 a0 Q 27 o := by
 intro o ho
 have ho2 : (some ({ dst := some 34, op := Go.Op.call { callee := Go.Callee.value (Go.Operand.func 18), args := #[Go.Operand.tmp 33, Go.Operand.const (Go.Value.int Go.IntKind.i64 2)], argTypes := #[24, 3] }, type := 29, pos := "outright.go:36", after := #[{ on := 26, ground := Go.Ground.data }, { on := 25, ground := Go.Ground.chain }, { on := 25, ground := Go.Ground.guard }], guard := some (25, true) }) : Option Oper) = some o := ho
 obtain rfl := Option.some.inj ho2
 clear ho2 ho
 intro listed a w hd hI
 have h33 : ((.val (.agg #[.slice (some ⟨gO, 0, none⟩) 4 4])) : Vk).ok w0.heap.size (a.tmps.getD 33 undef) w := hI.has 26 _ 33 rfl rfl (hd ⟨26, .data⟩ (by simp) rfl)
 have h32 : ((.val (.bool true)) : Vk).ok w0.heap.size (a.tmps.getD 32 undef) w := hI.has 25 _ 32 rfl rfl (hd ⟨25, .guard⟩ (by simp) rfl)
 refine ⟨Loose.wanted_some (d := 32) rfl rfl (show a.tmps.getD 32 undef = .bool true from h32), fun K hK => ?_⟩
 replace h33 : a.tmps.getD 33 undef = (.agg #[.slice (some ⟨gO, 0, none⟩) 4 4]) := h33
 replace h32 : a.tmps.getD 32 undef = (.bool true) := h32
 refine Loose.call_step Try.func18 (by kernel_rfl) rfl #[.agg #[.slice (some ⟨gO, 0, none⟩) 4 4], .int .i64 2] rfl (by simp [Act.eval, h33]) ((graph_Holders.calls 10 (some ⟨gO, 0, none⟩) 4 (fourL 3 7) 2 [2] w (qF.below hI.below).reads (by decide) (by decide +kernel)).mono ?_)
 rintro e w' ⟨v, rfl, hR, hb⟩
 exact ⟨v, rfl, hK v w' hb (Kd.R_lower hR hI.below.size)⟩
set_option maxRecDepth 100000 in
theorem w3step28 (gb gO g1 g2 : Nat) (w0 : World) (a0 : Act) (Q : Exit → Act → World → Prop) (q1 : a0.tmps.getD 1 undef = .pointer (some ⟨gb, 0, none⟩)) (qg : w0.cell? ⟨gb, 0, none⟩ = some (.slice (some ⟨gO, 0, none⟩) 4 4)) (qF : FourAt w0 gO g1 g2 3 7) : ∀ o, w3ops[28]? = some o → Loose.Step Try.prog w3ops (Vk.at (w3tab gb gO g1 g2) w0.heap.size) w0 a0 Q 28 o := by
 intro o ho
 have ho2 : (some ({ dst := some 35, op := Go.Op.buildSlice 29 1 #[(0, Go.Operand.const (Go.Value.int Go.IntKind.i64 2))], type := 29, pos := "outright.go:36", after := #[{ on := 25, ground := Go.Ground.guard }], guard := some (25, true) }) : Option Oper) = some o := ho
 obtain rfl := Option.some.inj ho2
 clear ho2 ho
 intro listed a w hd hI
 have h32 : ((.val (.bool true)) : Vk).ok w0.heap.size (a.tmps.getD 32 undef) w := hI.has 25 _ 32 rfl rfl (hd ⟨25, .guard⟩ (by simp) rfl)
 refine ⟨Loose.wanted_some (d := 32) rfl rfl (show a.tmps.getD 32 undef = .bool true from h32), fun K hK => ?_⟩
 replace h32 : a.tmps.getD 32 undef = (.bool true) := h32
 refine Loose.value_step (v := .slice (some ⟨w.heap.size, 0, none⟩) 1 1) (w' := w.alloc (.cells #[.int .i64 2] 3)) ?_ (hK _ _ (below_alloc (Below.refl _ _) _) ⟨w.heap.size, rfl, blk_new _ _⟩)
 unfold execOp
 simp only [Act.eval, List.map_toArray, List.map_cons, List.map_nil]
 go_simp
set_option maxRecDepth 100000 in
theorem w3step29 (gb gO g1 g2 : Nat) (w0 : World) (a0 : Act) (Q : Exit → Act → World → Prop) (q1 : a0.tmps.getD 1 undef = .pointer (some ⟨gb, 0, none⟩)) (qg : w0.cell? ⟨gb, 0, none⟩ = some (.slice (some ⟨gO, 0, none⟩) 4 4)) (qF : FourAt w0 gO g1 g2 3 7) : ∀ o, w3ops[29]? = some o → Loose.Step Try.prog w3ops (Vk.at (w3tab gb gO g1 g2) w0.heap.size) w0 a0 Q 29 o := by
 intro o ho
 have ho2 : (some ({ dst := some 36, op := Go.Op.call { callee := Go.Callee.value (Go.Operand.func 21), args := #[Go.Operand.tmp 34, Go.Operand.tmp 35], argTypes := #[29, 29] }, type := 4, pos := "outright.go:36", after := #[{ on := 27, ground := Go.Ground.data }, { on := 28, ground := Go.Ground.data }, { on := 27, ground := Go.Ground.chain }, { on := 25, ground := Go.Ground.guard }], guard := some (25, true) }) : Option Oper) = some o := ho
 obtain rfl := Option.some.inj ho2
 clear ho2 ho
 intro listed a w hd hI
 have h34 : ((.ints [2]) : Vk).ok w0.heap.size (a.tmps.getD 34 undef) w := hI.has 27 _ 34 rfl rfl (hd ⟨27, .data⟩ (by simp) rfl)
 have h35 : ((.blk #[.int .i64 2] 1 3) : Vk).ok w0.heap.size (a.tmps.getD 35 undef) w := hI.has 28 _ 35 rfl rfl (hd ⟨28, .data⟩ (by simp) rfl)
 have h32 : ((.val (.bool true)) : Vk).ok w0.heap.size (a.tmps.getD 32 undef) w := hI.has 25 _ 32 rfl rfl (hd ⟨25, .guard⟩ (by simp) rfl)
 refine ⟨Loose.wanted_some (d := 32) rfl rfl (show a.tmps.getD 32 undef = .bool true from h32), fun K hK => ?_⟩
 replace h32 : a.tmps.getD 32 undef = (.bool true) := h32
 obtain ⟨g, e2, hh⟩ := h35
 obtain ⟨A, c, e1, hc, hC⟩ := Kd.R_reads h34
 have hD := ints_lit hh [2] (by decide) rfl
 refine Loose.call_step Try.func21 (by kernel_rfl) rfl #[.slice A 1 c, .slice (some ⟨g, 0, none⟩) 1 1] rfl (by simp [Act.eval, e1, e2]) ((eql_calls 10 A c (some ⟨g, 0, none⟩) 1 [2] w hC hc hD (by decide) (by decide +kernel)).mono ?_)
 rintro e w' ⟨rfl, hb⟩
 exact ⟨_, rfl, hK _ w' hb rfl⟩
set_option maxRecDepth 100000 in
theorem w3step30 (gb gO g1 g2 : Nat) (w0 : World) (a0 : Act) (Q : Exit → Act → World → Prop) (q1 : a0.tmps.getD 1 undef = .pointer (some ⟨gb, 0, none⟩)) (qg : w0.cell? ⟨gb, 0, none⟩ = some (.slice (some ⟨gO, 0, none⟩) 4 4)) (qF : FourAt w0 gO g1 g2 3 7) : ∀ o, w3ops[30]? = some o → Loose.Step Try.prog w3ops (Vk.at (w3tab gb gO g1 g2) w0.heap.size) w0 a0 Q 30 o := by
 intro o ho
 have ho2 : (some ({ dst := some 37, op := Go.Op.pick (Go.Operand.tmp 32) (Go.Operand.tmp 36) (Go.Operand.const (Go.Value.bool false)), type := 4, pos := "outright.go:36", after := #[{ on := 25, ground := Go.Ground.data }, { on := 29, ground := Go.Ground.data }], guard := none }) : Option Oper) = some o := ho
 obtain rfl := Option.some.inj ho2
 clear ho2 ho
 intro listed a w hd hI
 have h32 : ((.val (.bool true)) : Vk).ok w0.heap.size (a.tmps.getD 32 undef) w := hI.has 25 _ 32 rfl rfl (hd ⟨25, .data⟩ (by simp) rfl)
 have h36 : ((.val (.bool true)) : Vk).ok w0.heap.size (a.tmps.getD 36 undef) w := hI.has 29 _ 36 rfl rfl (hd ⟨29, .data⟩ (by simp) rfl)
 refine ⟨Loose.wanted_none rfl _, fun K hK => ?_⟩
 replace h32 : a.tmps.getD 32 undef = (.bool true) := h32
 replace h36 : a.tmps.getD 36 undef = (.bool true) := h36
 refine Loose.value_step (v := .bool true) (w' := w) ?_ (hK _ _ (Below.refl _ _) rfl)
 simp [execOp, go_sem, Act.eval, h32, h36]
set_option maxRecDepth 100000 in
theorem w3step31 (gb gO g1 g2 : Nat) (w0 : World) (a0 : Act) (Q : Exit → Act → World → Prop) (q1 : a0.tmps.getD 1 undef = .pointer (some ⟨gb, 0, none⟩)) (qg : w0.cell? ⟨gb, 0, none⟩ = some (.slice (some ⟨gO, 0, none⟩) 4 4)) (qF : FourAt w0 gO g1 g2 3 7) : ∀ o, w3ops[31]? = some o → Loose.Step Try.prog w3ops (Vk.at (w3tab gb gO g1 g2) w0.heap.size) w0 a0 Q 31 o := by
 intro o ho
 have ho2 : (some ({ dst := some 3, op := Go.Op.assign (Go.Operand.tmp 37), type := 4, pos := "outright.go:36", after := #[{ on := 30, ground := Go.Ground.data }, { on := 29, ground := Go.Ground.chain }, { on := 0, ground := Go.Ground.phase }, { on := 1, ground := Go.Ground.phase }, { on := 2, ground := Go.Ground.phase }, { on := 3, ground := Go.Ground.phase }, { on := 4, ground := Go.Ground.phase }, { on := 5, ground := Go.Ground.phase }, { on := 6, ground := Go.Ground.phase }, { on := 7, ground := Go.Ground.phase }, { on := 8, ground := Go.Ground.phase }, { on := 9, ground := Go.Ground.phase }, { on := 10, ground := Go.Ground.phase }, { on := 11, ground := Go.Ground.phase }, { on := 12, ground := Go.Ground.phase }, { on := 13, ground := Go.Ground.phase }, { on := 14, ground := Go.Ground.phase }, { on := 15, ground := Go.Ground.phase }, { on := 16, ground := Go.Ground.phase }, { on := 17, ground := Go.Ground.phase }, { on := 18, ground := Go.Ground.phase }, { on := 19, ground := Go.Ground.phase }, { on := 20, ground := Go.Ground.phase }, { on := 21, ground := Go.Ground.phase }, { on := 22, ground := Go.Ground.phase }, { on := 23, ground := Go.Ground.phase }, { on := 24, ground := Go.Ground.phase }, { on := 25, ground := Go.Ground.phase }, { on := 26, ground := Go.Ground.phase }, { on := 27, ground := Go.Ground.phase }, { on := 28, ground := Go.Ground.phase }, { on := 29, ground := Go.Ground.phase }, { on := 30, ground := Go.Ground.phase }], guard := none }) : Option Oper) = some o := ho
 obtain rfl := Option.some.inj ho2
 clear ho2 ho
 intro listed a w hd hI
 have h37 : ((.val (.bool true)) : Vk).ok w0.heap.size (a.tmps.getD 37 undef) w := hI.has 30 _ 37 rfl rfl (hd ⟨30, .data⟩ (by simp) rfl)
 refine ⟨Loose.wanted_none rfl _, fun K hK => ?_⟩
 replace h37 : a.tmps.getD 37 undef = (.bool true) := h37
 refine Loose.value_step (v := .bool true) (w' := w) ?_ (hK _ _ (Below.refl _ _) rfl)
 simp [execOp, go_sem, Act.eval, h37]
theorem w3steps (gb gO g1 g2 : Nat) (w0 : World) (a0 : Act) (Q : Exit → Act → World → Prop) (q1 : a0.tmps.getD 1 undef = .pointer (some ⟨gb, 0, none⟩)) (qg : w0.cell? ⟨gb, 0, none⟩ = some (.slice (some ⟨gO, 0, none⟩) 4 4)) (qF : FourAt w0 gO g1 g2 3 7) : ∀ (i : Nat) (o : Oper), w3ops[i]? = some o → Loose.Step Try.prog w3ops (Vk.at (w3tab gb gO g1 g2) w0.heap.size) w0 a0 Q i o := by
 intro i o ho
 rcases (by omega : i = 0 ∨ i = 1 ∨ i = 2 ∨ i = 3 ∨ i = 4 ∨ i = 5 ∨ i = 6 ∨ i = 7 ∨ i = 8 ∨ i = 9 ∨ i = 10 ∨ i = 11 ∨ i = 12 ∨ i = 13 ∨ i = 14 ∨ i = 15 ∨ i = 16 ∨ i = 17 ∨ i = 18 ∨ i = 19 ∨ i = 20 ∨ i = 21 ∨ i = 22 ∨ i = 23 ∨ i = 24 ∨ i = 25 ∨ i = 26 ∨ i = 27 ∨ i = 28 ∨ i = 29 ∨ i = 30 ∨ i = 31 ∨ 32 ≤ i) with rfl | rfl | rfl | rfl | rfl | rfl | rfl | rfl | rfl | rfl | rfl | rfl | rfl | rfl | rfl | rfl | rfl | rfl | rfl | rfl | rfl | rfl | rfl | rfl | rfl | rfl | rfl | rfl | rfl | rfl | rfl | rfl | h
 ·exact w3step0 gb gO g1 g2 w0 a0 Q q1 qg qF o ho
 ·exact w3step1 gb gO g1 g2 w0 a0 Q q1 qg qF o ho
 ·exact w3step2 gb gO g1 g2 w0 a0 Q q1 qg qF o ho
 ·exact w3step3 gb gO g1 g2 w0 a0 Q q1 qg qF o ho
 ·exact w3step4 gb gO g1 g2 w0 a0 Q q1 qg qF o ho
 ·exact w3step5 gb gO g1 g2 w0 a0 Q q1 qg qF o ho
 ·exact w3step6 gb gO g1 g2 w0 a0 Q q1 qg qF o ho
 ·exact w3step7 gb gO g1 g2 w0 a0 Q q1 qg qF o ho
 ·exact w3step8 gb gO g1 g2 w0 a0 Q q1 qg qF o ho
 ·exact w3step9 gb gO g1 g2 w0 a0 Q q1 qg qF o ho
 ·exact w3step10 gb gO g1 g2 w0 a0 Q q1 qg qF o ho
 ·exact w3step11 gb gO g1 g2 w0 a0 Q q1 qg qF o ho
 ·exact w3step12 gb gO g1 g2 w0 a0 Q q1 qg qF o ho
 ·exact w3step13 gb gO g1 g2 w0 a0 Q q1 qg qF o ho
 ·exact w3step14 gb gO g1 g2 w0 a0 Q q1 qg qF o ho
 ·exact w3step15 gb gO g1 g2 w0 a0 Q q1 qg qF o ho
 ·exact w3step16 gb gO g1 g2 w0 a0 Q q1 qg qF o ho
 ·exact w3step17 gb gO g1 g2 w0 a0 Q q1 qg qF o ho
 ·exact w3step18 gb gO g1 g2 w0 a0 Q q1 qg qF o ho
 ·exact w3step19 gb gO g1 g2 w0 a0 Q q1 qg qF o ho
 ·exact w3step20 gb gO g1 g2 w0 a0 Q q1 qg qF o ho
 ·exact w3step21 gb gO g1 g2 w0 a0 Q q1 qg qF o ho
 ·exact w3step22 gb gO g1 g2 w0 a0 Q q1 qg qF o ho
 ·exact w3step23 gb gO g1 g2 w0 a0 Q q1 qg qF o ho
 ·exact w3step24 gb gO g1 g2 w0 a0 Q q1 qg qF o ho
 ·exact w3step25 gb gO g1 g2 w0 a0 Q q1 qg qF o ho
 ·exact w3step26 gb gO g1 g2 w0 a0 Q q1 qg qF o ho
 ·exact w3step27 gb gO g1 g2 w0 a0 Q q1 qg qF o ho
 ·exact w3step28 gb gO g1 g2 w0 a0 Q q1 qg qF o ho
 ·exact w3step29 gb gO g1 g2 w0 a0 Q q1 qg qF o ho
 ·exact w3step30 gb gO g1 g2 w0 a0 Q q1 qg qF o ho
 ·exact w3step31 gb gO g1 g2 w0 a0 Q q1 qg qF o ho
 ·have : w3ops.size ≤ i := Nat.le_trans (Nat.le_of_eq (by kernel_rfl)) h
  rw [Array.getElem?_eq_none this] at ho; cases ho
noncomputable def w4ops : Array Oper := opsOf Try.f11 4
def w4tab (gb gO g1 g2 : Nat) : List Vk := [(.val (.pointer (some ⟨gb, 0, none⟩))), (.val (.slice (some ⟨gO, 0, none⟩) 4 4)), (.val (.pointer (some ⟨gO, 5, none⟩))), (.val (.pointer (some ⟨gO, 7, none⟩))), (.val (.slice (some ⟨g1, 0, none⟩) 3 3)), (.val (.agg #[.int .i64 6, .int .i64 1])), (.val (.pointer (some ⟨g1, 4, none⟩))), (.val undef)]
theorem w4dsts : ∀ (i j : Nat) (oi oj : Oper) (d : Nat), w4ops[i]? = some oi → w4ops[j]? = some oj → oi.dst = some d → oj.dst = some d → i = j := Loose.dsts_of (l := [some 38, some 39, some 40, some 41, some 42, some 43, some 44, none]) (by kernel_rfl) (by decide)
theorem w4deps : ∀ (i : Nat) (o : Oper), w4ops[i]? = some o → ∀ e ∈ o.after, e.on < i := Loose.deps_of (by kernel_rfl)
set_option maxRecDepth 100000 in
theorem w4step0 (gb gO g1 g2 : Nat) (w0 : World) (a0 : Act) (Q : Exit → Act → World → Prop) (q1 : a0.tmps.getD 1 undef = .pointer (some ⟨gb, 0, none⟩)) (qg : w0.cell? ⟨gb, 0, none⟩ = some (.slice (some ⟨gO, 0, none⟩) 4 4)) (qF : FourAt w0 gO g1 g2 3 7) : ∀ o, w4ops[0]? = some o → Loose.Step Try.prog w4ops (Vk.at (w4tab gb gO g1 g2) w0.heap.size) w0 a0 Q 0 o := by
 intro o ho
 have ho2 : (some ({ dst := some 38, op := Go.Op.fieldAddr 24 (Go.Operand.tmp 1) 0, type := 0, pos := "outright.go:37", after := #[], guard := none }) : Option Oper) = some o := ho
 obtain rfl := Option.some.inj ho2
 clear ho2 ho
 intro listed a w hd hI
 refine ⟨Loose.wanted_none rfl _, fun K hK => ?_⟩
 have e1 : a.tmps.getD 1 undef = .pointer (some ⟨gb, 0, none⟩) := (hI.others 1 (Loose.no_dst (by kernel_rfl))).trans q1
 refine Loose.value_step (v := .pointer (some ⟨gb, 0, none⟩)) (w' := w) ?_ (hK _ _ (Below.refl _ _) rfl)
 unfold execOp
 simp only [Act.eval, e1]
 go_simp
set_option maxRecDepth 100000 in
theorem w4step1 (gb gO g1 g2 : Nat) (w0 : World) (a0 : Act) (Q : Exit → Act → World → Prop) (q1 : a0.tmps.getD 1 undef = .pointer (some ⟨gb, 0, none⟩)) (qg : w0.cell? ⟨gb, 0, none⟩ = some (.slice (some ⟨gO, 0, none⟩) 4 4)) (qF : FourAt w0 gO g1 g2 3 7) : ∀ o, w4ops[1]? = some o → Loose.Step Try.prog w4ops (Vk.at (w4tab gb gO g1 g2) w0.heap.size) w0 a0 Q 1 o := by
 intro o ho
 have ho2 : (some ({ dst := some 39, op := Go.Op.load 22 (Go.Operand.tmp 38), type := 22, pos := "outright.go:37", after := #[{ on := 0, ground := Go.Ground.data }], guard := none }) : Option Oper) = some o := ho
 obtain rfl := Option.some.inj ho2
 clear ho2 ho
 intro listed a w hd hI
 have h38 : ((.val (.pointer (some ⟨gb, 0, none⟩))) : Vk).ok w0.heap.size (a.tmps.getD 38 undef) w := hI.has 0 _ 38 rfl rfl (hd ⟨0, .data⟩ (by simp) rfl)
 refine ⟨Loose.wanted_none rfl _, fun K hK => ?_⟩
 replace h38 : a.tmps.getD 38 undef = (.pointer (some ⟨gb, 0, none⟩)) := h38
 have hc := cell_below hI.below qg
 refine Loose.value_step (v := .slice (some ⟨gO, 0, none⟩) 4 4) (w' := w) ?_ (hK _ _ (Below.refl _ _) rfl)
 unfold execOp
 simp only [Act.eval, h38]
 go_simp
set_option maxRecDepth 100000 in
theorem w4step2 (gb gO g1 g2 : Nat) (w0 : World) (a0 : Act) (Q : Exit → Act → World → Prop) (q1 : a0.tmps.getD 1 undef = .pointer (some ⟨gb, 0, none⟩)) (qg : w0.cell? ⟨gb, 0, none⟩ = some (.slice (some ⟨gO, 0, none⟩) 4 4)) (qF : FourAt w0 gO g1 g2 3 7) : ∀ o, w4ops[2]? = some o → Loose.Step Try.prog w4ops (Vk.at (w4tab gb gO g1 g2) w0.heap.size) w0 a0 Q 2 o := by
 intro o ho
 have ho2 : (some ({ dst := some 40, op := Go.Op.indexAddr 22 (Go.Operand.tmp 39) (Go.Operand.const (Go.Value.int Go.IntKind.i64 1)), type := 0, pos := "outright.go:37", after := #[{ on := 1, ground := Go.Ground.data }], guard := none }) : Option Oper) = some o := ho
 obtain rfl := Option.some.inj ho2
 clear ho2 ho
 intro listed a w hd hI
 have h39 : ((.val (.slice (some ⟨gO, 0, none⟩) 4 4)) : Vk).ok w0.heap.size (a.tmps.getD 39 undef) w := hI.has 1 _ 39 rfl rfl (hd ⟨1, .data⟩ (by simp) rfl)
 refine ⟨Loose.wanted_none rfl _, fun K hK => ?_⟩
 replace h39 : a.tmps.getD 39 undef = (.slice (some ⟨gO, 0, none⟩) 4 4) := h39
 refine Loose.value_step (v := .pointer (some ⟨gO, 5, none⟩)) (w' := w) ?_ (hK _ _ (Below.refl _ _) rfl)
 unfold execOp
 simp only [Act.eval, h39]
 go_simp
set_option maxRecDepth 100000 in
theorem w4step3 (gb gO g1 g2 : Nat) (w0 : World) (a0 : Act) (Q : Exit → Act → World → Prop) (q1 : a0.tmps.getD 1 undef = .pointer (some ⟨gb, 0, none⟩)) (qg : w0.cell? ⟨gb, 0, none⟩ = some (.slice (some ⟨gO, 0, none⟩) 4 4)) (qF : FourAt w0 gO g1 g2 3 7) : ∀ o, w4ops[3]? = some o → Loose.Step Try.prog w4ops (Vk.at (w4tab gb gO g1 g2) w0.heap.size) w0 a0 Q 3 o := by
 intro o ho
 have ho2 : (some ({ dst := some 41, op := Go.Op.fieldAddr 36 (Go.Operand.tmp 40) 2, type := 0, pos := "outright.go:37", after := #[{ on := 2, ground := Go.Ground.data }], guard := none }) : Option Oper) = some o := ho
 obtain rfl := Option.some.inj ho2
 clear ho2 ho
 intro listed a w hd hI
 have h40 : ((.val (.pointer (some ⟨gO, 5, none⟩))) : Vk).ok w0.heap.size (a.tmps.getD 40 undef) w := hI.has 2 _ 40 rfl rfl (hd ⟨2, .data⟩ (by simp) rfl)
 refine ⟨Loose.wanted_none rfl _, fun K hK => ?_⟩
 replace h40 : a.tmps.getD 40 undef = (.pointer (some ⟨gO, 5, none⟩)) := h40
 refine Loose.value_step (v := .pointer (some ⟨gO, 7, none⟩)) (w' := w) ?_ (hK _ _ (Below.refl _ _) rfl)
 unfold execOp
 simp only [Act.eval, h40]
 go_simp
set_option maxRecDepth 100000 in
theorem w4step4 (gb gO g1 g2 : Nat) (w0 : World) (a0 : Act) (Q : Exit → Act → World → Prop) (q1 : a0.tmps.getD 1 undef = .pointer (some ⟨gb, 0, none⟩)) (qg : w0.cell? ⟨gb, 0, none⟩ = some (.slice (some ⟨gO, 0, none⟩) 4 4)) (qF : FourAt w0 gO g1 g2 3 7) : ∀ o, w4ops[4]? = some o → Loose.Step Try.prog w4ops (Vk.at (w4tab gb gO g1 g2) w0.heap.size) w0 a0 Q 4 o := by
 intro o ho
 have ho2 : (some ({ dst := some 42, op := Go.Op.load 27 (Go.Operand.tmp 41), type := 27, pos := "outright.go:37", after := #[{ on := 3, ground := Go.Ground.data }], guard := none }) : Option Oper) = some o := ho
 obtain rfl := Option.some.inj ho2
 clear ho2 ho
 intro listed a w hd hI
 have h41 : ((.val (.pointer (some ⟨gO, 7, none⟩))) : Vk).ok w0.heap.size (a.tmps.getD 41 undef) w := hI.has 3 _ 41 rfl rfl (hd ⟨3, .data⟩ (by simp) rfl)
 refine ⟨Loose.wanted_none rfl _, fun K hK => ?_⟩
 replace h41 : a.tmps.getD 41 undef = (.pointer (some ⟨gO, 7, none⟩)) := h41
 have hc : w.cell? ⟨gO, 7, none⟩ = some (.slice (some ⟨g1, 0, none⟩) 3 3) := (blk_cell (qF.below hI.below).objs 7).trans rfl
 refine Loose.value_step (v := .slice (some ⟨g1, 0, none⟩) 3 3) (w' := w) ?_ (hK _ _ (Below.refl _ _) rfl)
 unfold execOp
 simp only [Act.eval, h41]
 go_simp
set_option maxRecDepth 100000 in
theorem w4step5 (gb gO g1 g2 : Nat) (w0 : World) (a0 : Act) (Q : Exit → Act → World → Prop) (q1 : a0.tmps.getD 1 undef = .pointer (some ⟨gb, 0, none⟩)) (qg : w0.cell? ⟨gb, 0, none⟩ = some (.slice (some ⟨gO, 0, none⟩) 4 4)) (qF : FourAt w0 gO g1 g2 3 7) : ∀ o, w4ops[5]? = some o → Loose.Step Try.prog w4ops (Vk.at (w4tab gb gO g1 g2) w0.heap.size) w0 a0 Q 5 o := by
 intro o ho
 have ho2 : (some ({ dst := some 43, op := Go.Op.call { callee := Go.Callee.value (Go.Operand.func 22), args := #[Go.Operand.const (Go.Value.int Go.IntKind.i64 6), Go.Operand.const (Go.Value.int Go.IntKind.i64 1)], argTypes := #[3, 2] }, type := 40, pos := "outright.go:37", after := #[], guard := none }) : Option Oper) = some o := ho
 obtain rfl := Option.some.inj ho2
 clear ho2 ho
 intro listed a w hd hI
 refine ⟨Loose.wanted_none rfl _, fun K hK => ?_⟩
 refine Loose.call_step Try.func22 (by kernel_rfl) rfl #[.int .i64 6, .int .i64 1] rfl (by simp [Act.eval]) ((tallowlaw10_of.calls 6 1 6 1 w rfl).mono ?_)
 rintro e w' ⟨rfl, hb⟩
 exact ⟨_, rfl, hK _ w' hb rfl⟩
set_option maxRecDepth 100000 in
theorem w4step6 (gb gO g1 g2 : Nat) (w0 : World) (a0 : Act) (Q : Exit → Act → World → Prop) (q1 : a0.tmps.getD 1 undef = .pointer (some ⟨gb, 0, none⟩)) (qg : w0.cell? ⟨gb, 0, none⟩ = some (.slice (some ⟨gO, 0, none⟩) 4 4)) (qF : FourAt w0 gO g1 g2 3 7) : ∀ o, w4ops[6]? = some o → Loose.Step Try.prog w4ops (Vk.at (w4tab gb gO g1 g2) w0.heap.size) w0 a0 Q 6 o := by
 intro o ho
 have ho2 : (some ({ dst := some 44, op := Go.Op.indexAddr 27 (Go.Operand.tmp 42) (Go.Operand.const (Go.Value.int Go.IntKind.i64 2)), type := 0, pos := "outright.go:37", after := #[{ on := 4, ground := Go.Ground.data }, { on := 0, ground := Go.Ground.phase }, { on := 1, ground := Go.Ground.phase }, { on := 2, ground := Go.Ground.phase }, { on := 3, ground := Go.Ground.phase }, { on := 4, ground := Go.Ground.phase }, { on := 5, ground := Go.Ground.phase }], guard := none }) : Option Oper) = some o := ho
 obtain rfl := Option.some.inj ho2
 clear ho2 ho
 intro listed a w hd hI
 have h42 : ((.val (.slice (some ⟨g1, 0, none⟩) 3 3)) : Vk).ok w0.heap.size (a.tmps.getD 42 undef) w := hI.has 4 _ 42 rfl rfl (hd ⟨4, .data⟩ (by simp) rfl)
 refine ⟨Loose.wanted_none rfl _, fun K hK => ?_⟩
 replace h42 : a.tmps.getD 42 undef = (.slice (some ⟨g1, 0, none⟩) 3 3) := h42
 refine Loose.value_step (v := .pointer (some ⟨g1, 4, none⟩)) (w' := w) ?_ (hK _ _ (Below.refl _ _) rfl)
 unfold execOp
 simp only [Act.eval, h42]
 go_simp
-- operation 7: by hand
theorem w4steps (gb gO g1 g2 : Nat) (w0 : World) (a0 : Act) (Q : Exit → Act → World → Prop) (q1 : a0.tmps.getD 1 undef = .pointer (some ⟨gb, 0, none⟩)) (qg : w0.cell? ⟨gb, 0, none⟩ = some (.slice (some ⟨gO, 0, none⟩) 4 4)) (qF : FourAt w0 gO g1 g2 3 7) : ∀ (i : Nat) (o : Oper), i < 7 → w4ops[i]? = some o → Loose.Step Try.prog w4ops (Vk.at (w4tab gb gO g1 g2) w0.heap.size) w0 a0 Q i o := by
 intro i o hi ho
 rcases (by omega : i = 0 ∨ i = 1 ∨ i = 2 ∨ i = 3 ∨ i = 4 ∨ i = 5 ∨ i = 6) with rfl | rfl | rfl | rfl | rfl | rfl | rfl
 ·exact w4step0 gb gO g1 g2 w0 a0 Q q1 qg qF o ho
 ·exact w4step1 gb gO g1 g2 w0 a0 Q q1 qg qF o ho
 ·exact w4step2 gb gO g1 g2 w0 a0 Q q1 qg qF o ho
 ·exact w4step3 gb gO g1 g2 w0 a0 Q q1 qg qF o ho
 ·exact w4step4 gb gO g1 g2 w0 a0 Q q1 qg qF o ho
 ·exact w4step5 gb gO g1 g2 w0 a0 Q q1 qg qF o ho
 ·exact w4step6 gb gO g1 g2 w0 a0 Q q1 qg qF o ho
theorem check_four (gO : Nat) (k n : Int) (r : Bool) (w : World) (h : Kd.C k36 w (some ⟨gO, 0, none⟩) 4 (fourL k n)) (hr : checkB (fourL k n) = r) :
  Calls Try.prog 9 #[.agg #[.slice (some ⟨gO, 0, none⟩) 4 4]] w fun e w' => OneB r w e w' :=
 check_any (some ⟨gO, 0, none⟩) 4 (fourL k n) w r hr h (by show 4 ≤ 4; omega)
set_option maxHeartbeats 2000000 in
set_option maxRecDepth 100000 in
theorem works_any (w : World) : Calls Try.prog 11 #[] w fun e w' => OneB true w e w' := by
 go_enter Try.func11, Try.ntmps11
 go_wp2_with (go_at_call 23; refine (four_any _).mono ?_; rintro e w1 ⟨gO, g1, g2, rfl, hF, b0, b1, b2, n1, n2, hb⟩; replace hF := Aside0.mk hF; replace hb := Aside0.mk hb)
 have HF : Aside0 (FourAt (w1.alloc (.cells #[.slice (some ⟨gO, 0, none⟩) 4 4] 24)) gO g1 g2 3 7) := ⟨hF.out.below (below_alloc (Below.refl _ _) _)⟩
 have hgc : (w1.alloc (.cells #[.slice (some ⟨gO, 0, none⟩) 4 4] 24)).heap[w1.heap.size]? = some (.cells #[.slice (some ⟨gO, 0, none⟩) 4 4] 24 (0, 0)) := blk_new _ _
 have HG := Aside0.mk hgc
 have HB := Aside0.mk (below_alloc hb.out (.cells #[.slice (some ⟨gO, 0, none⟩) 4 4] 24))
 have hlt1 := blk_lt hF.out.objs
 have hlt2 := blk_lt hF.out.one
 have hw1 := hb.out.size
 clear hF hb hgc
 obtain ⟨gb, hgb⟩ : ∃ gb, gb = w1.heap.size := ⟨_, rfl⟩
 rw [← hgb] at HG hlt1 hlt2 hw1 ⊢
 generalize w1.alloc (.cells #[.slice (some ⟨gO, 0, none⟩) 4 4] 24) = w2 at *
 clear hgb
 (with_reducible refine (check_four gO 3 7 true _ ?h1 (by decide +kernel)).mono ?_)
 case h1 => exact HF.out.reads
 rintro e w3 ⟨rfl, hb⟩
 replace HF := Aside0.mk (HF.out.below hb)
 replace HG := Aside0.mk ((hb.block _ (blk_lt HG.out)).trans HG.out)
 replace HB := Aside0.mk (below_step HB.out hb)
 clear hb
 have hc := (blk_cell HG.out 0).trans rfl
 go_wp2_with fail
 refine Loose.region (ops := w3ops) (V := Vk.at (w3tab gb gO g1 g2) w3.drew.heap.size) (by kernel_rfl) (Vk.stable _ _) (Loose.ins_of (by kernel_rfl)) w3dsts rfl (w3steps gb gO g1 g2 w3.drew _ _ rfl ?q1 ?q2) ?q3
 case q1 => exact hc
 case q2 => exact HF.out.below (below_drew (Below.refl _ _))
 case q3 =>
  intro listed a w4 hr hI
  have s3 : a.tmps.getD 3 undef = .bool true := hI.has 31 _ 3 rfl rfl (Loose.all_listed w3deps hI.lsize hr 31 (by decide +kernel))
  have s0 : a.tmps.getD 0 undef = .bool false := (hI.others 0 (Loose.no_dst (by kernel_rfl))).trans rfl
  have s1 : a.tmps.getD 1 undef = .pointer (some ⟨gb, 0, none⟩) := (hI.others 1 (Loose.no_dst (by kernel_rfl))).trans rfl
  have s2 : a.tmps.getD 2 undef = .bool true := (hI.others 2 (Loose.no_dst (by kernel_rfl))).trans rfl
  have ha := Loose.act_eq (hI.size.trans (show _ = 54 from rfl))
  rw [hI.defers] at ha
  have hb4 : Below w3.heap.size w3 w4 := (below_drew (Below.refl _ _)).trans hI.below
  rw [ha]
  clear ha hr
  show Exit.then _ _ _ ⟨#[a.tmps.getD 0 undef, a.tmps.getD 1 undef, a.tmps.getD 2 undef, a.tmps.getD 3 undef, a.tmps.getD 4 undef, a.tmps.getD 5 undef, a.tmps.getD 6 undef, a.tmps.getD 7 undef, a.tmps.getD 8 undef, a.tmps.getD 9 undef, a.tmps.getD 10 undef, a.tmps.getD 11 undef, a.tmps.getD 12 undef, a.tmps.getD 13 undef, a.tmps.getD 14 undef, a.tmps.getD 15 undef, a.tmps.getD 16 undef, a.tmps.getD 17 undef, a.tmps.getD 18 undef, a.tmps.getD 19 undef, a.tmps.getD 20 undef, a.tmps.getD 21 undef, a.tmps.getD 22 undef, a.tmps.getD 23 undef, a.tmps.getD 24 undef, a.tmps.getD 25 undef, a.tmps.getD 26 undef, a.tmps.getD 27 undef, a.tmps.getD 28 undef, a.tmps.getD 29 undef, a.tmps.getD 30 undef, a.tmps.getD 31 undef, a.tmps.getD 32 undef, a.tmps.getD 33 undef, a.tmps.getD 34 undef, a.tmps.getD 35 undef, a.tmps.getD 36 undef, a.tmps.getD 37 undef, a.tmps.getD 38 undef, a.tmps.getD 39 undef, a.tmps.getD 40 undef, a.tmps.getD 41 undef, a.tmps.getD 42 undef, a.tmps.getD 43 undef, a.tmps.getD 44 undef, a.tmps.getD 45 undef, a.tmps.getD 46 undef, a.tmps.getD 47 undef, a.tmps.getD 48 undef, a.tmps.getD 49 undef, a.tmps.getD 50 undef, a.tmps.getD 51 undef, a.tmps.getD 52 undef, a.tmps.getD 53 undef], []⟩ _
  rw [s0, s1, s2, s3]
  clear s0 s1 s2 s3
  generalize a.tmps.getD 4 undef = x4
  generalize a.tmps.getD 5 undef = x5
  generalize a.tmps.getD 6 undef = x6
  generalize a.tmps.getD 7 undef = x7
  generalize a.tmps.getD 8 undef = x8
  generalize a.tmps.getD 9 undef = x9
  generalize a.tmps.getD 10 undef = x10
  generalize a.tmps.getD 11 undef = x11
  generalize a.tmps.getD 12 undef = x12
  generalize a.tmps.getD 13 undef = x13
  generalize a.tmps.getD 14 undef = x14
  generalize a.tmps.getD 15 undef = x15
  generalize a.tmps.getD 16 undef = x16
  generalize a.tmps.getD 17 undef = x17
  generalize a.tmps.getD 18 undef = x18
  generalize a.tmps.getD 19 undef = x19
  generalize a.tmps.getD 20 undef = x20
  generalize a.tmps.getD 21 undef = x21
  generalize a.tmps.getD 22 undef = x22
  generalize a.tmps.getD 23 undef = x23
  generalize a.tmps.getD 24 undef = x24
  generalize a.tmps.getD 25 undef = x25
  generalize a.tmps.getD 26 undef = x26
  generalize a.tmps.getD 27 undef = x27
  generalize a.tmps.getD 28 undef = x28
  generalize a.tmps.getD 29 undef = x29
  generalize a.tmps.getD 30 undef = x30
  generalize a.tmps.getD 31 undef = x31
  generalize a.tmps.getD 32 undef = x32
  generalize a.tmps.getD 33 undef = x33
  generalize a.tmps.getD 34 undef = x34
  generalize a.tmps.getD 35 undef = x35
  generalize a.tmps.getD 36 undef = x36
  generalize a.tmps.getD 37 undef = x37
  generalize a.tmps.getD 38 undef = x38
  generalize a.tmps.getD 39 undef = x39
  generalize a.tmps.getD 40 undef = x40
  generalize a.tmps.getD 41 undef = x41
  generalize a.tmps.getD 42 undef = x42
  generalize a.tmps.getD 43 undef = x43
  generalize a.tmps.getD 44 undef = x44
  generalize a.tmps.getD 45 undef = x45
  generalize a.tmps.getD 46 undef = x46
  generalize a.tmps.getD 47 undef = x47
  generalize a.tmps.getD 48 undef = x48
  generalize a.tmps.getD 49 undef = x49
  generalize a.tmps.getD 50 undef = x50
  generalize a.tmps.getD 51 undef = x51
  generalize a.tmps.getD 52 undef = x52
  generalize a.tmps.getD 53 undef = x53
  replace HF := Aside0.mk (HF.out.below hb4)
  replace HG := Aside0.mk ((hb4.block _ (blk_lt HG.out)).trans HG.out)
  replace HB := Aside0.mk (below_step HB.out hb4)
  clear hb4 hI hc
  clear a listed
  have hc := (blk_cell HG.out 0).trans rfl
  go_wp2_with fail
  refine Loose.region_last (ops := w4ops) (last := 7) (V := Vk.at (w4tab gb gO g1 g2) w4.drew.heap.size) (by kernel_rfl) (by kernel_rfl) w4deps (Loose.phase_of (by kernel_rfl)) (Vk.stable _ _) (Loose.ins_of (by kernel_rfl)) w4dsts rfl (w4steps gb gO g1 g2 w4.drew _ _ rfl ?q4 ?q5) ?q6
  case q4 => exact hc
  case q5 => exact HF.out.below (below_drew (Below.refl _ _))
  case q6 =>
   intro o listed a w5 ho hall hI
   have ho2 : (some ({ dst := none, op := Go.Op.store 40 (Go.Operand.tmp 44) (Go.Operand.tmp 43), type := 0, pos := "outright.go:37", after := #[{ on := 6, ground := Go.Ground.data }, { on := 5, ground := Go.Ground.data }, { on := 5, ground := Go.Ground.chain }, { on := 0, ground := Go.Ground.phase }, { on := 1, ground := Go.Ground.phase }, { on := 2, ground := Go.Ground.phase }, { on := 3, ground := Go.Ground.phase }, { on := 4, ground := Go.Ground.phase }, { on := 5, ground := Go.Ground.phase }], guard := none }) : Option Oper) = some o := ho
   obtain rfl := Option.some.inj ho2
   clear ho2 ho
   have s43 : a.tmps.getD 43 undef = .agg #[.int .i64 6, .int .i64 1] := hI.has 5 _ 43 rfl rfl (hall 5 (by decide))
   have s44 : a.tmps.getD 44 undef = .pointer (some ⟨g1, 4, none⟩) := hI.has 6 _ 44 rfl rfl (hall 6 (by decide))
   have s0 : a.tmps.getD 0 undef = .bool false := (hI.others 0 (Loose.no_dst (by kernel_rfl))).trans rfl
   have s1 : a.tmps.getD 1 undef = .pointer (some ⟨gb, 0, none⟩) := (hI.others 1 (Loose.no_dst (by kernel_rfl))).trans rfl
   have s2 : a.tmps.getD 2 undef = .bool true := (hI.others 2 (Loose.no_dst (by kernel_rfl))).trans rfl
   have s3 : a.tmps.getD 3 undef = .bool true := (hI.others 3 (Loose.no_dst (by kernel_rfl))).trans rfl
   have ha := Loose.act_eq (hI.size.trans (show _ = 54 from rfl))
   rw [hI.defers] at ha
   have hb5 : Below w4.heap.size w4 w5 := (below_drew (Below.refl _ _)).trans hI.below
   replace HF := Aside0.mk (HF.out.below hb5)
   replace HG := Aside0.mk ((hb5.block _ (blk_lt HG.out)).trans HG.out)
   replace HB := Aside0.mk (below_step HB.out hb5)
   clear hb5 hI hall hc
   have x4 : w5.cell? ⟨g1, 4, none⟩ = some (.int .i64 3) := (blk_cell HF.out.one 4).trans rfl
   have x5 : w5.cell? ⟨g1, 5, none⟩ = some (.int .i64 7) := (blk_cell HF.out.one 5).trans rfl
   have f4 := blk_frozen HF.out.one 4
   have f5 := blk_frozen HF.out.one 5
   refine ⟨Loose.wanted_none rfl _, ?_⟩
   refine Loose.skip_step (w' := (w5.setCell ⟨g1, 4, none⟩ (.int .i64 6)).setCell ⟨g1, 5, none⟩ (.int .i64 1)) ?_ ?_
   ·unfold execOp
    simp only [Act.eval, s43, s44]
    go_simp
   show Exit.then _ _ _ a _
   clear x4 x5 f4 f5 s43 s44
   have HF2 : Aside0 (FourAt ((w5.setCell ⟨g1, 4, none⟩ (.int .i64 6)).setCell ⟨g1, 5, none⟩ (.int .i64 1)) gO g1 g2 6 1) :=
    ⟨⟨blk_far (blk_far HF.out.objs (by exact Ne.symm n1) _) (by exact Ne.symm n1) _, blk_put (blk_put HF.out.one 4 _ rfl) 5 _ rfl, blk_far (blk_far HF.out.two (by exact Ne.symm n2) _) (by exact Ne.symm n2) _⟩⟩
   have HG2 := Aside0.mk (blk_far (blk_far HG.out (p := ⟨g1, 4, none⟩) (by show gb ≠ g1; omega) (.int .i64 6)) (p := ⟨g1, 5, none⟩) (by show gb ≠ g1; omega) (.int .i64 1))
   have HB2 := Aside0.mk ((HB.out.setCell (p := ⟨g1, 4, none⟩) b1 (.int .i64 6)).setCell (p := ⟨g1, 5, none⟩) b1 (.int .i64 1))
   clear HF HG HB
   generalize (w5.setCell ⟨g1, 4, none⟩ (.int .i64 6)).setCell ⟨g1, 5, none⟩ (.int .i64 1) = w6 at *
   rw [ha]
   clear ha
   show Exit.then _ _ _ ⟨#[a.tmps.getD 0 undef, a.tmps.getD 1 undef, a.tmps.getD 2 undef, a.tmps.getD 3 undef, a.tmps.getD 4 undef, a.tmps.getD 5 undef, a.tmps.getD 6 undef, a.tmps.getD 7 undef, a.tmps.getD 8 undef, a.tmps.getD 9 undef, a.tmps.getD 10 undef, a.tmps.getD 11 undef, a.tmps.getD 12 undef, a.tmps.getD 13 undef, a.tmps.getD 14 undef, a.tmps.getD 15 undef, a.tmps.getD 16 undef, a.tmps.getD 17 undef, a.tmps.getD 18 undef, a.tmps.getD 19 undef, a.tmps.getD 20 undef, a.tmps.getD 21 undef, a.tmps.getD 22 undef, a.tmps.getD 23 undef, a.tmps.getD 24 undef, a.tmps.getD 25 undef, a.tmps.getD 26 undef, a.tmps.getD 27 undef, a.tmps.getD 28 undef, a.tmps.getD 29 undef, a.tmps.getD 30 undef, a.tmps.getD 31 undef, a.tmps.getD 32 undef, a.tmps.getD 33 undef, a.tmps.getD 34 undef, a.tmps.getD 35 undef, a.tmps.getD 36 undef, a.tmps.getD 37 undef, a.tmps.getD 38 undef, a.tmps.getD 39 undef, a.tmps.getD 40 undef, a.tmps.getD 41 undef, a.tmps.getD 42 undef, a.tmps.getD 43 undef, a.tmps.getD 44 undef, a.tmps.getD 45 undef, a.tmps.getD 46 undef, a.tmps.getD 47 undef, a.tmps.getD 48 undef, a.tmps.getD 49 undef, a.tmps.getD 50 undef, a.tmps.getD 51 undef, a.tmps.getD 52 undef, a.tmps.getD 53 undef], []⟩ _
   rw [s0, s1, s2, s3]
   clear s0 s1 s2 s3
   generalize a.tmps.getD 4 undef = x4
   generalize a.tmps.getD 5 undef = x5
   generalize a.tmps.getD 6 undef = x6
   generalize a.tmps.getD 7 undef = x7
   generalize a.tmps.getD 8 undef = x8
   generalize a.tmps.getD 9 undef = x9
   generalize a.tmps.getD 10 undef = x10
   generalize a.tmps.getD 11 undef = x11
   generalize a.tmps.getD 12 undef = x12
   generalize a.tmps.getD 13 undef = x13
   generalize a.tmps.getD 14 undef = x14
   generalize a.tmps.getD 15 undef = x15
   generalize a.tmps.getD 16 undef = x16
   generalize a.tmps.getD 17 undef = x17
   generalize a.tmps.getD 18 undef = x18
   generalize a.tmps.getD 19 undef = x19
   generalize a.tmps.getD 20 undef = x20
   generalize a.tmps.getD 21 undef = x21
   generalize a.tmps.getD 22 undef = x22
   generalize a.tmps.getD 23 undef = x23
   generalize a.tmps.getD 24 undef = x24
   generalize a.tmps.getD 25 undef = x25
   generalize a.tmps.getD 26 undef = x26
   generalize a.tmps.getD 27 undef = x27
   generalize a.tmps.getD 28 undef = x28
   generalize a.tmps.getD 29 undef = x29
   generalize a.tmps.getD 30 undef = x30
   generalize a.tmps.getD 31 undef = x31
   generalize a.tmps.getD 32 undef = x32
   generalize a.tmps.getD 33 undef = x33
   generalize a.tmps.getD 34 undef = x34
   generalize a.tmps.getD 35 undef = x35
   generalize a.tmps.getD 36 undef = x36
   generalize a.tmps.getD 37 undef = x37
   generalize a.tmps.getD 38 undef = x38
   generalize a.tmps.getD 39 undef = x39
   generalize a.tmps.getD 40 undef = x40
   generalize a.tmps.getD 41 undef = x41
   generalize a.tmps.getD 42 undef = x42
   generalize a.tmps.getD 43 undef = x43
   generalize a.tmps.getD 44 undef = x44
   generalize a.tmps.getD 45 undef = x45
   generalize a.tmps.getD 46 undef = x46
   generalize a.tmps.getD 47 undef = x47
   generalize a.tmps.getD 48 undef = x48
   generalize a.tmps.getD 49 undef = x49
   generalize a.tmps.getD 50 undef = x50
   generalize a.tmps.getD 51 undef = x51
   generalize a.tmps.getD 52 undef = x52
   generalize a.tmps.getD 53 undef = x53
   have hc := (blk_cell HG2.out 0).trans rfl
   clear a listed
   go_wp2_with fail
   (with_reducible refine (check_four gO 6 1 false _ ?h9 (by decide +kernel)).mono ?_)
   case h9 => exact HF2.out.reads
   rintro e w7 ⟨rfl, hb⟩
   go_wp2_with fail
   go_ret
   exact ⟨rfl, below_step HB2.out hb⟩
def tallowlaw10_works.f : Option (Bool) := some true
theorem tallowlaw10_works.calls (r : Bool) (w : World) (h : tallowlaw10_works.f = some r) :
  Calls Try.prog 11 #[] w fun e w' => e = .returned (.bool r) ∧ Below w.heap.size w w' := by
 obtain rfl : true = r := Option.some.inj h
 exact works_any w
end Go.Proofs.Ytlpieciihlgdiaa.G
