-- GraphKnown, walked by hand
import Derived.Test.YtlpieciihlgdiaaPSums
import Derived.Test.YtlpieciihlgdiaaGxF16
import Derived.Test.YtlpieciihlgdiaaGxF18
import Derived.Test.YtlpieciihlgdiaaGxF11
import Derived.Test.YtlpieciihlgdiaaLoose
import Derived.Lib.Hide
import Derived.Maps.OwnOps
import Derived.Maps.OwnSet
import Derived.Maps.Views
namespace Go.Proofs.Ytlpieciihlgdiaa.G
open Go.RowKit Go.Proofs.YtlpieciihlgdiaaW.PrintWords Go.Proofs.YtlpieciihlgdiaaW.PrintLast Go.Proofs.YtlpieciihlgdiaaW.PrintMore
set_option linter.unusedVariables false
set_option linter.unusedSimpArgs false
theorem of_exact (a b : Int) (w : World) : Calls Try.prog 22 #[.int .i64 a, .int .i64 b] w fun e w' => e = .returned (.agg #[.int .i64 a, .int .i64 b]) ∧ w' = w.alloc (.cells #[.int .i64 a, .int .i64 b] 40) := by
  have hu40 := Try.underlying40
  go_enter Try.func22, Try.ntmps22
  go_wp2
  refine bodyPost_ret (results_cell_row rfl _ _ w.heap.size 40 #[.int .i64 a, .int .i64 b] (0, 0) _ rfl (blk_new w _) Try.underlying40 rfl (by kernel_rfl)) rfl ?_
  exact ⟨rfl, rfl⟩
/-- the objects that may not be, one by one -/
def badL : List S36 := [⟨4, 0, [], ⟨#[]⟩, 0⟩, ⟨10, 0, [], ⟨#[]⟩, 0⟩, ⟨0, 1, [], ⟨#[]⟩, 0⟩, ⟨0, 0, [], ⟨#[120]⟩, 0⟩, ⟨0, 0, [], ⟨#[]⟩, 1⟩, ⟨0, 0, [⟨3, 1⟩], ⟨#[]⟩, 0⟩, ⟨6, -1, [], ⟨#[]⟩, 0⟩, ⟨6, 0, [], ⟨#[]⟩, -2⟩, ⟨6, 0, [], ⟨#[120]⟩, 0⟩, ⟨5, 0, [⟨3, 1⟩], ⟨#[]⟩, 0⟩, ⟨6, 0, [⟨0, 0⟩], ⟨#[]⟩, 0⟩, ⟨6, 0, [⟨6, 2⟩], ⟨#[]⟩, 0⟩, ⟨6, 0, [⟨7, 1⟩], ⟨#[]⟩, 0⟩, ⟨6, 0, [⟨2, 2⟩], ⟨#[]⟩, 0⟩, ⟨6, 0, [⟨6, 0⟩], ⟨#[]⟩, 0⟩]
theorem bad_all : ∀ x ∈ badL, checkB [x] = false := by decide +kernel
/-- an object's cells -/
def cells36 (x : S36) (A : Option Addr) (c : Nat) : List Value := [.int .i64 x.f0, .int .i64 x.f1, .slice A x.f2.length c, .string x.f3, .int .i64 x.f4]
theorem flat36 : ∀ (xs : List (S36 × Option Addr × Nat)) (j : Nat) (p : S36 × Option Addr × Nat), xs[j]? = some p → ∀ (i : Nat) (u : Value), (cells36 p.1 p.2.1 p.2.2)[i]? = some u →
    (xs.flatMap fun x => cells36 x.1 x.2.1 x.2.2)[j * 5 + i]? = some u
  | [], j, p, h, _, _, _ => by simp at h
  | x :: xs, 0, p, h, i, u, hu => by
    obtain rfl : x = p := by simpa using h
    have hi : i < 5 := by
      rcases Nat.lt_or_ge i 5 with h' | h'
      · exact h'
      · rw [List.getElem?_eq_none (by simpa [cells36] using h')] at hu; cases hu
    rw [List.flatMap_cons, List.getElem?_append_left (by simpa [cells36] using hi)]
    simpa using hu
  | x :: xs, j + 1, p, h, i, u, hu => by
    rw [List.flatMap_cons, List.getElem?_append_right (by simp [cells36]; omega)]
    have := flat36 xs j p (by simpa using h) i u hu
    rw [← this]; congr 1; simp [cells36]; omega
theorem C36_lit {w : World} {g : Nat} {cs : Array Value} {t : TypeId} (hh : w.heap[g]? = some (.cells cs t (0, 0))) (xs : List (S36 × Option Addr × Nat)) (hx : xs.length ≤ 9223372036854775807)
    (hc : cs.toList = xs.flatMap fun x => cells36 x.1 x.2.1 x.2.2) (hs : ∀ x ∈ xs, x.1.f2.length ≤ x.2.2 ∧ Kd.C k40 w x.2.1 x.1.f2.length x.1.f2) : Kd.C k36 w (some ⟨g, 0, none⟩) (xs.map (·.1)).length (xs.map (·.1)) := by
  refine ⟨rfl, by rw [List.length_map]; exact hx, fun _ => ⟨_, rfl, fun j p hj => ?_⟩⟩
  rw [List.getElem?_map] at hj
  obtain ⟨q, hq, rfl⟩ := Option.map_eq_some_iff.1 hj
  obtain ⟨h1, h2⟩ := hs q (List.mem_of_getElem? hq)
  refine ⟨cells36 q.1 q.2.1 q.2.2, rfl, k36_mk w q.1 h1 h2, fun i u hu => ?_⟩
  have h3 := flat36 xs j q hq i u hu
  rw [← hc, Array.getElem?_toList] at h3
  have h4 := blk_cell hh (j * 5 + i)
  rw [h3] at h4
  have e5 : k36.sz = 5 := rfl
  rw [e5, add_at]; exact h4
structure BadAt (w : World) (g b1 b2 b3 b4 b5 b6 b7 : Nat) : Prop where
  objs : w.heap[g]? = some (.cells #[.int .i64 4, .int .i64 0, .slice none 0 0, .string ⟨#[]⟩, .int .i64 0, .int .i64 10, .int .i64 0, .slice none 0 0, .string ⟨#[]⟩, .int .i64 0, .int .i64 0, .int .i64 1, .slice none 0 0, .string ⟨#[]⟩, .int .i64 0, .int .i64 0, .int .i64 0, .slice none 0 0, .string ⟨#[120]⟩, .int .i64 0, .int .i64 0, .int .i64 0, .slice none 0 0, .string ⟨#[]⟩, .int .i64 1, .int .i64 0, .int .i64 0, .slice (some ⟨b1, 0, none⟩) 1 1, .string ⟨#[]⟩, .int .i64 0, .int .i64 6, .int .i64 (-1), .slice none 0 0, .string ⟨#[]⟩, .int .i64 0, .int .i64 6, .int .i64 0, .slice none 0 0, .string ⟨#[]⟩, .int .i64 (-2), .int .i64 6, .int .i64 0, .slice none 0 0, .string ⟨#[120]⟩, .int .i64 0, .int .i64 5, .int .i64 0, .slice (some ⟨b2, 0, none⟩) 1 1, .string ⟨#[]⟩, .int .i64 0, .int .i64 6, .int .i64 0, .slice (some ⟨b3, 0, none⟩) 1 1, .string ⟨#[]⟩, .int .i64 0, .int .i64 6, .int .i64 0, .slice (some ⟨b4, 0, none⟩) 1 1, .string ⟨#[]⟩, .int .i64 0, .int .i64 6, .int .i64 0, .slice (some ⟨b5, 0, none⟩) 1 1, .string ⟨#[]⟩, .int .i64 0, .int .i64 6, .int .i64 0, .slice (some ⟨b6, 0, none⟩) 1 1, .string ⟨#[]⟩, .int .i64 0, .int .i64 6, .int .i64 0, .slice (some ⟨b7, 0, none⟩) 1 1, .string ⟨#[]⟩, .int .i64 0] 36 (0, 0))
  s1 : w.heap[b1]? = some (.cells #[.int .i64 3, .int .i64 1] 40 (0, 0))
  s2 : w.heap[b2]? = some (.cells #[.int .i64 3, .int .i64 1] 40 (0, 0))
  s3 : w.heap[b3]? = some (.cells #[.int .i64 0, .int .i64 0] 40 (0, 0))
  s4 : w.heap[b4]? = some (.cells #[.int .i64 6, .int .i64 2] 40 (0, 0))
  s5 : w.heap[b5]? = some (.cells #[.int .i64 7, .int .i64 1] 40 (0, 0))
  s6 : w.heap[b6]? = some (.cells #[.int .i64 2, .int .i64 2] 40 (0, 0))
  s7 : w.heap[b7]? = some (.cells #[.int .i64 6, .int .i64 0] 40 (0, 0))
theorem BadAt.reads {w : World} {g b1 b2 b3 b4 b5 b6 b7 : Nat} (h : BadAt w g b1 b2 b3 b4 b5 b6 b7) : Kd.C k36 w (some ⟨g, 0, none⟩) badL.length badL := by
  have one : ∀ (b : Nat) (k n : Int), w.heap[b]? = some (.cells #[.int .i64 k, .int .i64 n] 40 (0, 0)) → (1 : Nat) ≤ 1 ∧ Kd.C k40 w (some ⟨b, 0, none⟩) 1 [⟨k, n⟩] := fun b k n hh => ⟨Nat.le_refl _, C40_lit hh [⟨k, n⟩] (by simp) rfl⟩
  have nil : (0 : Nat) ≤ 0 ∧ Kd.C k40 w none 0 [] := ⟨Nat.le_refl _, Kd.C_nil _ _⟩
  refine C36_lit h.objs [(⟨4, 0, [], ⟨#[]⟩, 0⟩, none, 0), (⟨10, 0, [], ⟨#[]⟩, 0⟩, none, 0), (⟨0, 1, [], ⟨#[]⟩, 0⟩, none, 0), (⟨0, 0, [], ⟨#[120]⟩, 0⟩, none, 0), (⟨0, 0, [], ⟨#[]⟩, 1⟩, none, 0), (⟨0, 0, [⟨3, 1⟩], ⟨#[]⟩, 0⟩, some ⟨b1, 0, none⟩, 1), (⟨6, -1, [], ⟨#[]⟩, 0⟩, none, 0), (⟨6, 0, [], ⟨#[]⟩, -2⟩, none, 0), (⟨6, 0, [], ⟨#[120]⟩, 0⟩, none, 0), (⟨5, 0, [⟨3, 1⟩], ⟨#[]⟩, 0⟩, some ⟨b2, 0, none⟩, 1), (⟨6, 0, [⟨0, 0⟩], ⟨#[]⟩, 0⟩, some ⟨b3, 0, none⟩, 1), (⟨6, 0, [⟨6, 2⟩], ⟨#[]⟩, 0⟩, some ⟨b4, 0, none⟩, 1), (⟨6, 0, [⟨7, 1⟩], ⟨#[]⟩, 0⟩, some ⟨b5, 0, none⟩, 1), (⟨6, 0, [⟨2, 2⟩], ⟨#[]⟩, 0⟩, some ⟨b6, 0, none⟩, 1), (⟨6, 0, [⟨6, 0⟩], ⟨#[]⟩, 0⟩, some ⟨b7, 0, none⟩, 1)] (by simp) rfl ?_
  intro x hx
  simp only [List.mem_cons, List.not_mem_nil, or_false] at hx
  rcases hx with rfl | rfl | rfl | rfl | rfl | rfl | rfl | rfl | rfl | rfl | rfl | rfl | rfl | rfl | rfl
  · exact nil
  · exact nil
  · exact nil
  · exact nil
  · exact nil
  · exact one b1 3 1 h.s1
  · exact nil
  · exact nil
  · exact nil
  · exact one b2 3 1 h.s2
  · exact one b3 0 0 h.s3
  · exact one b4 6 2 h.s4
  · exact one b5 7 1 h.s5
  · exact one b6 2 2 h.s6
  · exact one b7 6 0 h.s7
theorem BadAt.below {w w' : World} {g b1 b2 b3 b4 b5 b6 b7 : Nat} (h : BadAt w g b1 b2 b3 b4 b5 b6 b7) (hb : Below w.heap.size w w') : BadAt w' g b1 b2 b3 b4 b5 b6 b7 :=
  ⟨(hb.block _ (blk_lt h.objs)).trans h.objs, (hb.block _ (blk_lt h.s1)).trans h.s1, (hb.block _ (blk_lt h.s2)).trans h.s2, (hb.block _ (blk_lt h.s3)).trans h.s3, (hb.block _ (blk_lt h.s4)).trans h.s4, (hb.block _ (blk_lt h.s5)).trans h.s5, (hb.block _ (blk_lt h.s6)).trans h.s6, (hb.block _ (blk_lt h.s7)).trans h.s7⟩
theorem blk_new' (w : World) (o : Obj) (n : Nat) (h : w.heap.size = n) : (w.alloc o).heap[n]? = some o := by subst h; exact blk_new w o
def badW (w : World) : World := (((((((((((((w.alloc (.cells #[.int .i64 3, .int .i64 1] 40)).alloc (.cells #[.int .i64 3, .int .i64 1] 40)).alloc (.cells #[.int .i64 3, .int .i64 1] 40)).alloc (.cells #[.int .i64 3, .int .i64 1] 40)).alloc (.cells #[.int .i64 0, .int .i64 0] 40)).alloc (.cells #[.int .i64 6, .int .i64 2] 40)).alloc (.cells #[.int .i64 6, .int .i64 2] 40)).alloc (.cells #[.int .i64 7, .int .i64 1] 40)).alloc (.cells #[.int .i64 7, .int .i64 1] 40)).alloc (.cells #[.int .i64 2, .int .i64 2] 40)).alloc (.cells #[.int .i64 2, .int .i64 2] 40)).alloc (.cells #[.int .i64 6, .int .i64 0] 40)).alloc (.cells #[.int .i64 6, .int .i64 0] 40)).alloc (.cells #[.int .i64 4, .int .i64 0, .slice none 0 0, .string ⟨#[]⟩, .int .i64 0, .int .i64 10, .int .i64 0, .slice none 0 0, .string ⟨#[]⟩, .int .i64 0, .int .i64 0, .int .i64 1, .slice none 0 0, .string ⟨#[]⟩, .int .i64 0, .int .i64 0, .int .i64 0, .slice none 0 0, .string ⟨#[120]⟩, .int .i64 0, .int .i64 0, .int .i64 0, .slice none 0 0, .string ⟨#[]⟩, .int .i64 1, .int .i64 0, .int .i64 0, .slice (some ⟨w.heap.size + 1, 0, none⟩) 1 1, .string ⟨#[]⟩, .int .i64 0, .int .i64 6, .int .i64 (-1), .slice none 0 0, .string ⟨#[]⟩, .int .i64 0, .int .i64 6, .int .i64 0, .slice none 0 0, .string ⟨#[]⟩, .int .i64 (-2), .int .i64 6, .int .i64 0, .slice none 0 0, .string ⟨#[120]⟩, .int .i64 0, .int .i64 5, .int .i64 0, .slice (some ⟨w.heap.size + 1 + 1 + 1, 0, none⟩) 1 1, .string ⟨#[]⟩, .int .i64 0, .int .i64 6, .int .i64 0, .slice (some ⟨w.heap.size + 1 + 1 + 1 + 1, 0, none⟩) 1 1, .string ⟨#[]⟩, .int .i64 0, .int .i64 6, .int .i64 0, .slice (some ⟨w.heap.size + 1 + 1 + 1 + 1 + 1 + 1, 0, none⟩) 1 1, .string ⟨#[]⟩, .int .i64 0, .int .i64 6, .int .i64 0, .slice (some ⟨w.heap.size + 1 + 1 + 1 + 1 + 1 + 1 + 1 + 1, 0, none⟩) 1 1, .string ⟨#[]⟩, .int .i64 0, .int .i64 6, .int .i64 0, .slice (some ⟨w.heap.size + 1 + 1 + 1 + 1 + 1 + 1 + 1 + 1 + 1 + 1, 0, none⟩) 1 1, .string ⟨#[]⟩, .int .i64 0, .int .i64 6, .int .i64 0, .slice (some ⟨w.heap.size + 1 + 1 + 1 + 1 + 1 + 1 + 1 + 1 + 1 + 1 + 1 + 1, 0, none⟩) 1 1, .string ⟨#[]⟩, .int .i64 0] 36)
theorem badW_at (w : World) : BadAt (badW w) (w.heap.size + 1 + 1 + 1 + 1 + 1 + 1 + 1 + 1 + 1 + 1 + 1 + 1 + 1) (w.heap.size + 1) (w.heap.size + 1 + 1 + 1) (w.heap.size + 1 + 1 + 1 + 1) (w.heap.size + 1 + 1 + 1 + 1 + 1 + 1) (w.heap.size + 1 + 1 + 1 + 1 + 1 + 1 + 1 + 1) (w.heap.size + 1 + 1 + 1 + 1 + 1 + 1 + 1 + 1 + 1 + 1) (w.heap.size + 1 + 1 + 1 + 1 + 1 + 1 + 1 + 1 + 1 + 1 + 1 + 1) := by
  unfold badW
  refine ⟨blk_new' _ _ _ (by simp), ?_, ?_, ?_, ?_, ?_, ?_, ?_⟩
  · iterate 12 refine blk_alloc ?_ _
    exact blk_new' _ _ _ (by simp)
  · iterate 10 refine blk_alloc ?_ _
    exact blk_new' _ _ _ (by simp)
  · iterate 9 refine blk_alloc ?_ _
    exact blk_new' _ _ _ (by simp)
  · iterate 7 refine blk_alloc ?_ _
    exact blk_new' _ _ _ (by simp)
  · iterate 5 refine blk_alloc ?_ _
    exact blk_new' _ _ _ (by simp)
  · iterate 3 refine blk_alloc ?_ _
    exact blk_new' _ _ _ (by simp)
  · iterate 1 refine blk_alloc ?_ _
    exact blk_new' _ _ _ (by simp)
theorem badW_below (w : World) : Below w.heap.size w (badW w) := by
  unfold badW
  exact below_alloc (below_alloc (below_alloc (below_alloc (below_alloc (below_alloc (below_alloc (below_alloc (below_alloc (below_alloc (below_alloc (below_alloc (below_alloc (below_alloc (Below.refl _ _) _) _) _) _) _) _) _) _) _) _) _) _) _) _
theorem bad_cells {w : World} {g b1 b2 b3 b4 b5 b6 b7 : Nat} (h : BadAt w g b1 b2 b3 b4 b5 b6 b7) (q : Nat) (hq : q < 15) : ∃ x A2 c2, x ∈ badL ∧ w.cell? ⟨g, q * 5, none⟩ = some (.int .i64 x.f0) ∧ w.cell? ⟨g, q * 5 + 1, none⟩ = some (.int .i64 x.f1) ∧ w.cell? ⟨g, q * 5 + 2, none⟩ = some (.slice A2 x.f2.length c2) ∧ w.cell? ⟨g, q * 5 + 3, none⟩ = some (.string x.f3) ∧ w.cell? ⟨g, q * 5 + 4, none⟩ = some (.int .i64 x.f4) ∧ x.f2.length ≤ c2 ∧ Kd.C k40 w A2 x.f2.length x.f2 := by
  obtain ⟨ad, c, e, _, hK, hc0⟩ := Kd.C_get h.reads z36 (q : Int) (by omega) (by show (q : Int) < (15 : Nat); omega)
  cases e
  rw [Int.toNat_natCast] at hc0 hK
  have hc : ∀ j u, c[j]? = some u → w.cell? ((⟨g, 0, none⟩ : Addr).add (q * 5 + j)) = some u := hc0
  obtain ⟨A2, c2, rfl, l2, g2⟩ := k36_open hK
  have hm : badL.getD q z36 ∈ badL := by
    rw [List.getD_eq_getElem?_getD, List.getElem?_eq_getElem (by show q < 15; exact hq)]; exact List.getElem_mem _
  have hat : ∀ (j : Nat) (u : Value), w.cell? ((⟨g, 0, none⟩ : Addr).add (q * 5 + j)) = some u → w.cell? ⟨g, q * 5 + j, none⟩ = some u := fun j u hu => by rw [add_at] at hu; exact hu
  exact ⟨badL.getD q z36, A2, c2, hm, hat 0 _ (hc 0 _ rfl), hat 1 _ (hc 1 _ rfl), hat 2 _ (hc 2 _ rfl), hat 3 _ (hc 3 _ rfl), hat 4 _ (hc 4 _ rfl), l2, g2⟩
theorem C36_one {w : World} {g : Nat} {x : S36} {A2 : Option Addr} {c2 : Nat} (hh : w.heap[g]? = some (.cells #[.int .i64 x.f0, .int .i64 x.f1, .slice A2 x.f2.length c2, .string x.f3, .int .i64 x.f4] 36 (0, 0))) (h1 : x.f2.length ≤ c2) (h2 : Kd.C k40 w A2 x.f2.length x.f2) : Kd.C k36 w (some ⟨g, 0, none⟩) [x].length [x] :=
  C36_lit hh [(x, A2, c2)] (by simp) rfl (fun y hy => by obtain rfl := List.mem_singleton.1 hy; exact ⟨h1, h2⟩)
theorem into_none {l : List S36} (h : checkB l = false) : intoL l = [] := by unfold intoL; rw [if_neg (by rw [h]; decide)]
theorem holders_none {l : List S36} (h : checkB l = false) (k : Nat) (a : Int) : graph_Holders.f k l a = some [] := by
  unfold graph_Holders.f
  have e1 : graph_Check.f l = some (checkB l) := rfl
  rw [e1, Option.bind_some, if_neg (by rw [h]; decide)]
theorem bad_sizes : ∀ x ∈ badL, sizesB [x] = true := by decide +kernel
section
variable {w : World} {nb : Nat} {x : S36}
theorem check_one (h : Kd.C k36 w (some ⟨nb, 0, none⟩) [x].length [x]) {r : Bool} (hx : checkB [x] = r) : Calls Try.prog 9 #[.agg #[.slice (some ⟨nb, 0, none⟩) 1 1]] w fun e w' => OneB r w e w' := check_any (some ⟨nb, 0, none⟩) 1 [x] w r hx h (Nat.le_refl 1)
theorem into_one (h : Kd.C k36 w (some ⟨nb, 0, none⟩) [x].length [x]) {r : List Int} (hz : sizesB [x] = true) (hx : intoL [x] = r) : Calls Try.prog 14 #[.agg #[.slice (some ⟨nb, 0, none⟩) 1 1]] w fun e w' => RowOut r w e w' := by
  subst hx; exact into_any (some ⟨nb, 0, none⟩) 1 [x] w hz h (Nat.le_refl 1)
theorem holders_one (h : Kd.C k36 w (some ⟨nb, 0, none⟩) [x].length [x]) (k : Nat) (a : Int) {r : List Int} (hx : graph_Holders.f k [x] a = some r) : Calls Try.prog 18 #[.agg #[.slice (some ⟨nb, 0, none⟩) 1 1], .int .i64 a] w fun e w' => RowOut r w e w' :=
  graph_Holders.calls k (some ⟨nb, 0, none⟩) 1 [x] a r w h (Nat.le_refl 1) hx
end
/-- the chapter's graph, whose last object leads to a free one -/
structure FourBad (w : World) (gO g1 g2 : Nat) : Prop where
  objs : w.heap[gO]? = some (.cells #[.int .i64 5, .int .i64 2, .slice none 0 0, .string ⟨#[97]⟩, .int .i64 0, .int .i64 6, .int .i64 1, .slice (some ⟨g1, 0, none⟩) 3 3, .string ⟨#[]⟩, .int .i64 0, .int .i64 0, .int .i64 0, .slice none 0 0, .string ⟨#[]⟩, .int .i64 0, .int .i64 9, .int .i64 0, .slice (some ⟨g2, 0, none⟩) 1 1, .string ⟨#[]⟩, .int .i64 0] 36 (0, 0))
  one : w.heap[g1]? = some (.cells #[.int .i64 5, .int .i64 1, .int .i64 6, .int .i64 2, .int .i64 3, .int .i64 7] 40 (0, 0))
  two : w.heap[g2]? = some (.cells #[.int .i64 9, .int .i64 3] 40 (0, 0))
def fourBad : List S36 := [⟨5, 2, [], ⟨#[97]⟩, 0⟩, ⟨6, 1, [⟨5, 1⟩, ⟨6, 2⟩, ⟨3, 7⟩], ⟨#[]⟩, 0⟩, ⟨0, 0, [], ⟨#[]⟩, 0⟩, ⟨9, 0, [⟨9, 3⟩], ⟨#[]⟩, 0⟩]
theorem FourBad.below {w w' : World} {gO g1 g2 : Nat} (h : FourBad w gO g1 g2) (hb : Below w.heap.size w w') : FourBad w' gO g1 g2 :=
  ⟨(hb.block _ (blk_lt h.objs)).trans h.objs, (hb.block _ (blk_lt h.one)).trans h.one, (hb.block _ (blk_lt h.two)).trans h.two⟩
theorem FourBad.reads {w : World} {gO g1 g2 : Nat} (h : FourBad w gO g1 g2) : Kd.C k36 w (some ⟨gO, 0, none⟩) fourBad.length fourBad := by
  refine C36_lit h.objs [(⟨5, 2, [], ⟨#[97]⟩, 0⟩, none, 0), (⟨6, 1, [⟨5, 1⟩, ⟨6, 2⟩, ⟨3, 7⟩], ⟨#[]⟩, 0⟩, some ⟨g1, 0, none⟩, 3), (⟨0, 0, [], ⟨#[]⟩, 0⟩, none, 0), (⟨9, 0, [⟨9, 3⟩], ⟨#[]⟩, 0⟩, some ⟨g2, 0, none⟩, 1)] (by simp) rfl ?_
  intro x hx
  simp only [List.mem_cons, List.not_mem_nil, or_false] at hx
  rcases hx with rfl | rfl | rfl | rfl
  · exact ⟨Nat.le_refl _, Kd.C_nil _ _⟩
  · exact ⟨Nat.le_refl _, C40_lit h.one [⟨5, 1⟩, ⟨6, 2⟩, ⟨3, 7⟩] (by simp) rfl⟩
  · exact ⟨Nat.le_refl _, Kd.C_nil _ _⟩
  · exact ⟨Nat.le_refl _, C40_lit h.two [⟨9, 3⟩] (by simp) rfl⟩
theorem check_bad {w : World} {gO g1 g2 : Nat} (h : FourBad w gO g1 g2) : Calls Try.prog 9 #[.agg #[.slice (some ⟨gO, 0, none⟩) 4 4]] w fun e w' => OneB false w e w' :=
  check_any (some ⟨gO, 0, none⟩) 4 fourBad w false (by decide +kernel) h.reads (Nat.le_refl 4)
theorem holders_four {w : World} {gO g1 g2 : Nat} (h : FourAt w gO g1 g2 3 7) (a : Int) (hx : graph_Holders.f 20 (fourL 3 7) a = some []) : Calls Try.prog 18 #[.agg #[.slice (some ⟨gO, 0, none⟩) 4 4], .int .i64 a] w fun e w' => RowOut [] w e w' :=
  graph_Holders.calls 20 (some ⟨gO, 0, none⟩) 4 (fourL 3 7) a [] w h.reads (Nat.le_refl 4) hx
theorem hold3 : graph_Holders.f 20 (fourL 3 7) 3 = some [] := by decide +kernel
theorem holdm : graph_Holders.f 20 (fourL 3 7) (-1) = some [] := by decide +kernel
theorem hold99 : graph_Holders.f 20 (fourL 3 7) 99 = some [] := by decide +kernel
/-- an object that holds itself twice -/
def selfX : S36 := ⟨8, 0, [⟨8, 1⟩, ⟨8, 1⟩, ⟨1, 0⟩], ⟨#[]⟩, -1⟩
theorem self_check : checkB [selfX] = true := by decide +kernel
theorem self_into : intoL [selfX] = [2] := by decide +kernel
theorem self_exact : exactL [selfX] [] = [1] := by decide +kernel
theorem self_hold : graph_Holders.f 20 [selfX] 1 = some [1] := by decide +kernel
theorem self_sizes : sizesB [selfX] = true := by decide +kernel
structure SelfAt (w : World) (gs g gh : Nat) : Prop where
  s : w.heap[gs]? = some (.cells #[.int .i64 8, .int .i64 1, .int .i64 8, .int .i64 1, .int .i64 1, .int .i64 0] 40 (0, 0))
  o : w.heap[g]? = some (.cells #[.int .i64 8, .int .i64 0, .slice (some ⟨gs, 0, none⟩) 3 3, .string ⟨#[]⟩, .int .i64 (-1)] 36 (0, 0))
  h : w.heap[gh]? = some (.cells #[.slice (some ⟨g, 0, none⟩) 1 1] 24 (0, 0))
theorem SelfAt.below {w w' : World} {gs g gh : Nat} (h : SelfAt w gs g gh) (hb : Below w.heap.size w w') : SelfAt w' gs g gh :=
  ⟨(hb.block _ (blk_lt h.s)).trans h.s, (hb.block _ (blk_lt h.o)).trans h.o, (hb.block _ (blk_lt h.h)).trans h.h⟩
theorem SelfAt.reads {w : World} {gs g gh : Nat} (h : SelfAt w gs g gh) : Kd.C k36 w (some ⟨g, 0, none⟩) [selfX].length [selfX] :=
  C36_one (x := selfX) h.o (Nat.le_refl 3) (C40_lit h.s [⟨8, 1⟩, ⟨8, 1⟩, ⟨1, 0⟩] (by simp) rfl)
def selfW (w : World) : World := (((((w.alloc (.cells #[.int .i64 8, .int .i64 1] 40)).alloc (.cells #[.int .i64 8, .int .i64 1] 40)).alloc (.cells #[.int .i64 1, .int .i64 0] 40)).alloc (.cells #[.int .i64 8, .int .i64 1, .int .i64 8, .int .i64 1, .int .i64 1, .int .i64 0] 40)).alloc (.cells #[.int .i64 8, .int .i64 0, .slice (some ⟨w.heap.size + 1 + 1 + 1, 0, none⟩) 3 3, .string ⟨#[]⟩, .int .i64 (-1)] 36)).alloc (.cells #[.slice (some ⟨w.heap.size + 1 + 1 + 1 + 1, 0, none⟩) 1 1] 24)
theorem selfW_at (w : World) : SelfAt (selfW w) (w.heap.size + 1 + 1 + 1) (w.heap.size + 1 + 1 + 1 + 1) (w.heap.size + 1 + 1 + 1 + 1 + 1) := by
  unfold selfW
  refine ⟨?_, ?_, blk_new' _ _ _ (by simp)⟩
  · iterate 2 refine blk_alloc ?_ _
    exact blk_new' _ _ _ (by simp)
  · refine blk_alloc ?_ _
    exact blk_new' _ _ _ (by simp)
theorem selfW_below (w : World) : Below w.heap.size w (selfW w) := by
  unfold selfW
  exact below_alloc (below_alloc (below_alloc (below_alloc (below_alloc (below_alloc (Below.refl _ _) _) _) _) _) _) _
theorem exact_self {w : World} {gs g gh : Nat} (h : SelfAt w gs g gh) : Calls Try.prog 16 #[.agg #[.slice (some ⟨g, 0, none⟩) 1 1], .slice none 0 0] w fun e w' => RowOut [1] w e w' := by
  have := exact_any (some ⟨g, 0, none⟩) 1 [selfX] none 0 [] w self_sizes (by simp) h.reads (Nat.le_refl 1) (Kd.C_nil _ _) (Nat.le_refl 0)
  rw [self_exact] at this
  exact this
structure Kn (w : World) (gb gO h1 h2 gs g gh : Nat) (wr : World) : Prop where
  F : FourBad wr gO h1 h2
  G : wr.heap[gb]? = some (.cells #[.slice (some ⟨gO, 0, none⟩) 4 4] 24 (0, 0))
  S : SelfAt wr gs g gh
  B : Below w.heap.size w wr
theorem Kn.step {w : World} {gb gO h1 h2 gs g gh : Nat} {wr w' : World} (h : Kn w gb gO h1 h2 gs g gh wr) (hb : Below wr.heap.size wr w') : Kn w gb gO h1 h2 gs g gh w' :=
  ⟨h.F.below hb, (hb.block _ (blk_lt h.G)).trans h.G, h.S.below hb, below_step h.B hb⟩
theorem Kn.cells {w : World} {gb gO h1 h2 gs g gh : Nat} {wr : World} (h : Kn w gb gO h1 h2 gs g gh wr) : wr.cell? ⟨gb, 0, none⟩ = some (.slice (some ⟨gO, 0, none⟩) 4 4) ∧ wr.cell? ⟨gh, 0, none⟩ = some (.slice (some ⟨g, 0, none⟩) 1 1) :=
  ⟨(blk_cell h.G 0).trans rfl, (blk_cell h.S.h 0).trans rfl⟩
theorem ints_kn (xs : List Int) {w : World} {A : Option Addr} {c : Nat} (h : Kd.C (Kd.int .i64) w A xs.length xs) (hc : xs.length ≤ c) {A2 : Option Addr} {c2 : Nat} (h2 : Kd.C (Kd.int .i64) w A2 xs.length xs) (hc2 : xs.length ≤ c2) (hl : xs.length ≤ 17592186044416) (hi : tallowlaw10_ints.f (xs.length + 1) xs xs = some true) :
    Calls Try.prog 21 #[.slice A xs.length c, .slice A2 xs.length c2] w fun e w' => OneB true w e w' :=
  (tallowlaw10_ints.calls (xs.length + 1) A c xs A2 c2 xs true w h hc h2 hc2 hi).mono fun e w' ⟨he, hd⟩ => ⟨he, hd.below⟩
theorem ints_one {w : World} {A : Option Addr} {c : Nat} {n : Int} (h : Kd.C (Kd.int .i64) w A [n].length [n]) (hc : [n].length ≤ c) (hi : tallowlaw10_ints.f 2 [n] [n] = some true) :
    Calls Try.prog 21 #[.slice A 1 c, .slice (some ⟨w.heap.size, 0, none⟩) 1 1] (w.alloc (.cells #[.int .i64 n] 3)) fun e w' => OneB true (w.alloc (.cells #[.int .i64 n] 3)) e w' :=
  ints_kn [n] (Kd.C_alloc h _) hc (ints_lit (blk_new w (.cells #[.int .i64 n] 3)) [n] (by simp) rfl) (Nat.le_refl 1) (by simp) hi
theorem ints_nil {w : World} {A : Option Addr} {c : Nat} (h : Kd.C (Kd.int .i64) w A ([] : List Int).length []) : Calls Try.prog 21 #[.slice A 0 c, .slice none 0 0] w fun e w' => OneB true w e w' :=
  ints_kn [] h (Nat.zero_le _) (Kd.C_nil _ _) (Nat.le_refl 0) (by simp) (by decide +kernel)
theorem i2 : tallowlaw10_ints.f 2 [2] [2] = some true := by decide +kernel
theorem i1 : tallowlaw10_ints.f 2 [1] [1] = some true := by decide +kernel
theorem check_nil (w : World) : Calls Try.prog 9 #[.agg #[.slice none 0 0]] w fun e w' => OneB true w e w' := check_any none 0 [] w true rfl (Kd.C_nil _ _) (Nat.le_refl 0)
theorem into_nil (w : World) : Calls Try.prog 14 #[.agg #[.slice none 0 0]] w fun e w' => RowOut [] w e w' := into_any none 0 [] w rfl (Kd.C_nil _ _) (Nat.le_refl 0)
noncomputable def k9ops : Array Oper := opsOf Try.f8 9
def k9tab (gb gO g1 g2 : Nat) : List Vk := [(.val (.pointer (some ⟨gb, 0, none⟩))), (.val (.slice (some ⟨gO, 0, none⟩) 4 4)), (.val (.pointer (some ⟨gO, 15, none⟩))), (.val (.pointer (some ⟨gO, 17, none⟩))), (.val (.slice (some ⟨g2, 0, none⟩) 1 1)), (.val (.agg #[.int .i64 9, .int .i64 3])), (.val (.pointer (some ⟨g2, 0, none⟩))), (.val undef)]
theorem k9dsts : ∀ (i j : Nat) (oi oj : Oper) (d : Nat), k9ops[i]? = some oi → k9ops[j]? = some oj → oi.dst = some d → oj.dst = some d → i = j := Loose.dsts_of (l := [some 63, some 64, some 65, some 66, some 67, some 68, some 69, none]) (by kernel_rfl) (by decide)
theorem k9deps : ∀ (i : Nat) (o : Oper), k9ops[i]? = some o → ∀ e ∈ o.after, e.on < i := Loose.deps_of (by kernel_rfl)
set_option maxRecDepth 100000 in
theorem k9step0 (gb gO g1 g2 : Nat) (w0 : World) (a0 : Act) (Q : Exit → Act → World → Prop) (q1 : a0.tmps.getD 4 undef = .pointer (some ⟨gb, 0, none⟩)) (qg : w0.cell? ⟨gb, 0, none⟩ = some (.slice (some ⟨gO, 0, none⟩) 4 4)) (qF : FourAt w0 gO g1 g2 3 7) : ∀ o, k9ops[0]? = some o → Loose.Step Try.prog k9ops (Vk.at (k9tab gb gO g1 g2) w0.heap.size) w0 a0 Q 0 o := by
  intro o ho
  have ho2 : (some ({ dst := some 63, op := Go.Op.fieldAddr 24 (Go.Operand.tmp 4) 0, type := 0, pos := "outright.go:133", after := #[], guard := none }) : Option Oper) = some o := ho
  obtain rfl := Option.some.inj ho2
  clear ho2 ho
  intro listed a w hd hI
  refine ⟨Loose.wanted_none rfl _, fun K hK => ?_⟩
  have e1 : a.tmps.getD 4 undef = .pointer (some ⟨gb, 0, none⟩) := (hI.others 4 (Loose.no_dst (by kernel_rfl))).trans q1
  refine Loose.value_step (v := .pointer (some ⟨gb, 0, none⟩)) (w' := w) ?_ (hK _ _ (Below.refl _ _) rfl)
  unfold execOp
  simp only [Act.eval, e1]
  go_simp
set_option maxRecDepth 100000 in
theorem k9step1 (gb gO g1 g2 : Nat) (w0 : World) (a0 : Act) (Q : Exit → Act → World → Prop) (q1 : a0.tmps.getD 4 undef = .pointer (some ⟨gb, 0, none⟩)) (qg : w0.cell? ⟨gb, 0, none⟩ = some (.slice (some ⟨gO, 0, none⟩) 4 4)) (qF : FourAt w0 gO g1 g2 3 7) : ∀ o, k9ops[1]? = some o → Loose.Step Try.prog k9ops (Vk.at (k9tab gb gO g1 g2) w0.heap.size) w0 a0 Q 1 o := by
  intro o ho
  have ho2 : (some ({ dst := some 64, op := Go.Op.load 22 (Go.Operand.tmp 63), type := 22, pos := "outright.go:133", after := #[{ on := 0, ground := Go.Ground.data }], guard := none }) : Option Oper) = some o := ho
  obtain rfl := Option.some.inj ho2
  clear ho2 ho
  intro listed a w hd hI
  have h63 : ((.val (.pointer (some ⟨gb, 0, none⟩))) : Vk).ok w0.heap.size (a.tmps.getD 63 undef) w := hI.has 0 _ 63 rfl rfl (hd ⟨0, .data⟩ (by simp) rfl)
  refine ⟨Loose.wanted_none rfl _, fun K hK => ?_⟩
  replace h63 : a.tmps.getD 63 undef = (.pointer (some ⟨gb, 0, none⟩)) := h63
  have hc := cell_below hI.below qg
  refine Loose.value_step (v := .slice (some ⟨gO, 0, none⟩) 4 4) (w' := w) ?_ (hK _ _ (Below.refl _ _) rfl)
  unfold execOp
  simp only [Act.eval, h63]
  go_simp
set_option maxRecDepth 100000 in
theorem k9step2 (gb gO g1 g2 : Nat) (w0 : World) (a0 : Act) (Q : Exit → Act → World → Prop) (q1 : a0.tmps.getD 4 undef = .pointer (some ⟨gb, 0, none⟩)) (qg : w0.cell? ⟨gb, 0, none⟩ = some (.slice (some ⟨gO, 0, none⟩) 4 4)) (qF : FourAt w0 gO g1 g2 3 7) : ∀ o, k9ops[2]? = some o → Loose.Step Try.prog k9ops (Vk.at (k9tab gb gO g1 g2) w0.heap.size) w0 a0 Q 2 o := by
  intro o ho
  have ho2 : (some ({ dst := some 65, op := Go.Op.indexAddr 22 (Go.Operand.tmp 64) (Go.Operand.const (Go.Value.int Go.IntKind.i64 3)), type := 0, pos := "outright.go:133", after := #[{ on := 1, ground := Go.Ground.data }], guard := none }) : Option Oper) = some o := ho
  obtain rfl := Option.some.inj ho2
  clear ho2 ho
  intro listed a w hd hI
  have h64 : ((.val (.slice (some ⟨gO, 0, none⟩) 4 4)) : Vk).ok w0.heap.size (a.tmps.getD 64 undef) w := hI.has 1 _ 64 rfl rfl (hd ⟨1, .data⟩ (by simp) rfl)
  refine ⟨Loose.wanted_none rfl _, fun K hK => ?_⟩
  replace h64 : a.tmps.getD 64 undef = (.slice (some ⟨gO, 0, none⟩) 4 4) := h64
  refine Loose.value_step (v := .pointer (some ⟨gO, 15, none⟩)) (w' := w) ?_ (hK _ _ (Below.refl _ _) rfl)
  unfold execOp
  simp only [Act.eval, h64]
  go_simp
set_option maxRecDepth 100000 in
theorem k9step3 (gb gO g1 g2 : Nat) (w0 : World) (a0 : Act) (Q : Exit → Act → World → Prop) (q1 : a0.tmps.getD 4 undef = .pointer (some ⟨gb, 0, none⟩)) (qg : w0.cell? ⟨gb, 0, none⟩ = some (.slice (some ⟨gO, 0, none⟩) 4 4)) (qF : FourAt w0 gO g1 g2 3 7) : ∀ o, k9ops[3]? = some o → Loose.Step Try.prog k9ops (Vk.at (k9tab gb gO g1 g2) w0.heap.size) w0 a0 Q 3 o := by
  intro o ho
  have ho2 : (some ({ dst := some 66, op := Go.Op.fieldAddr 36 (Go.Operand.tmp 65) 2, type := 0, pos := "outright.go:133", after := #[{ on := 2, ground := Go.Ground.data }], guard := none }) : Option Oper) = some o := ho
  obtain rfl := Option.some.inj ho2
  clear ho2 ho
  intro listed a w hd hI
  have h65 : ((.val (.pointer (some ⟨gO, 15, none⟩))) : Vk).ok w0.heap.size (a.tmps.getD 65 undef) w := hI.has 2 _ 65 rfl rfl (hd ⟨2, .data⟩ (by simp) rfl)
  refine ⟨Loose.wanted_none rfl _, fun K hK => ?_⟩
  replace h65 : a.tmps.getD 65 undef = (.pointer (some ⟨gO, 15, none⟩)) := h65
  refine Loose.value_step (v := .pointer (some ⟨gO, 17, none⟩)) (w' := w) ?_ (hK _ _ (Below.refl _ _) rfl)
  unfold execOp
  simp only [Act.eval, h65]
  go_simp
set_option maxRecDepth 100000 in
theorem k9step4 (gb gO g1 g2 : Nat) (w0 : World) (a0 : Act) (Q : Exit → Act → World → Prop) (q1 : a0.tmps.getD 4 undef = .pointer (some ⟨gb, 0, none⟩)) (qg : w0.cell? ⟨gb, 0, none⟩ = some (.slice (some ⟨gO, 0, none⟩) 4 4)) (qF : FourAt w0 gO g1 g2 3 7) : ∀ o, k9ops[4]? = some o → Loose.Step Try.prog k9ops (Vk.at (k9tab gb gO g1 g2) w0.heap.size) w0 a0 Q 4 o := by
  intro o ho
  have ho2 : (some ({ dst := some 67, op := Go.Op.load 27 (Go.Operand.tmp 66), type := 27, pos := "outright.go:133", after := #[{ on := 3, ground := Go.Ground.data }], guard := none }) : Option Oper) = some o := ho
  obtain rfl := Option.some.inj ho2
  clear ho2 ho
  intro listed a w hd hI
  have h66 : ((.val (.pointer (some ⟨gO, 17, none⟩))) : Vk).ok w0.heap.size (a.tmps.getD 66 undef) w := hI.has 3 _ 66 rfl rfl (hd ⟨3, .data⟩ (by simp) rfl)
  refine ⟨Loose.wanted_none rfl _, fun K hK => ?_⟩
  replace h66 : a.tmps.getD 66 undef = (.pointer (some ⟨gO, 17, none⟩)) := h66
  have hc : w.cell? ⟨gO, 17, none⟩ = some (.slice (some ⟨g2, 0, none⟩) 1 1) := (blk_cell (qF.below hI.below).objs 17).trans rfl
  refine Loose.value_step (v := .slice (some ⟨g2, 0, none⟩) 1 1) (w' := w) ?_ (hK _ _ (Below.refl _ _) rfl)
  unfold execOp
  simp only [Act.eval, h66]
  go_simp
set_option maxRecDepth 100000 in
theorem k9step5 (gb gO g1 g2 : Nat) (w0 : World) (a0 : Act) (Q : Exit → Act → World → Prop) (q1 : a0.tmps.getD 4 undef = .pointer (some ⟨gb, 0, none⟩)) (qg : w0.cell? ⟨gb, 0, none⟩ = some (.slice (some ⟨gO, 0, none⟩) 4 4)) (qF : FourAt w0 gO g1 g2 3 7) : ∀ o, k9ops[5]? = some o → Loose.Step Try.prog k9ops (Vk.at (k9tab gb gO g1 g2) w0.heap.size) w0 a0 Q 5 o := by
  intro o ho
  have ho2 : (some ({ dst := some 68, op := Go.Op.call { callee := Go.Callee.value (Go.Operand.func 22), args := #[Go.Operand.const (Go.Value.int Go.IntKind.i64 9), Go.Operand.const (Go.Value.int Go.IntKind.i64 3)], argTypes := #[3, 2] }, type := 40, pos := "outright.go:133", after := #[], guard := none }) : Option Oper) = some o := ho
  obtain rfl := Option.some.inj ho2
  clear ho2 ho
  intro listed a w hd hI
  refine ⟨Loose.wanted_none rfl _, fun K hK => ?_⟩
  refine Loose.call_step Try.func22 (by kernel_rfl) rfl #[.int .i64 9, .int .i64 3] rfl (by simp [Act.eval]) ((tallowlaw10_of.calls 9 3 9 3 w rfl).mono ?_)
  rintro e w' ⟨rfl, hb⟩
  exact ⟨_, rfl, hK _ w' hb rfl⟩
set_option maxRecDepth 100000 in
theorem k9step6 (gb gO g1 g2 : Nat) (w0 : World) (a0 : Act) (Q : Exit → Act → World → Prop) (q1 : a0.tmps.getD 4 undef = .pointer (some ⟨gb, 0, none⟩)) (qg : w0.cell? ⟨gb, 0, none⟩ = some (.slice (some ⟨gO, 0, none⟩) 4 4)) (qF : FourAt w0 gO g1 g2 3 7) : ∀ o, k9ops[6]? = some o → Loose.Step Try.prog k9ops (Vk.at (k9tab gb gO g1 g2) w0.heap.size) w0 a0 Q 6 o := by
  intro o ho
  have ho2 : (some ({ dst := some 69, op := Go.Op.indexAddr 27 (Go.Operand.tmp 67) (Go.Operand.const (Go.Value.int Go.IntKind.i64 0)), type := 0, pos := "outright.go:133", after := #[{ on := 4, ground := Go.Ground.data }, { on := 0, ground := Go.Ground.phase }, { on := 1, ground := Go.Ground.phase }, { on := 2, ground := Go.Ground.phase }, { on := 3, ground := Go.Ground.phase }, { on := 4, ground := Go.Ground.phase }, { on := 5, ground := Go.Ground.phase }], guard := none }) : Option Oper) = some o := ho
  obtain rfl := Option.some.inj ho2
  clear ho2 ho
  intro listed a w hd hI
  have h67 : ((.val (.slice (some ⟨g2, 0, none⟩) 1 1)) : Vk).ok w0.heap.size (a.tmps.getD 67 undef) w := hI.has 4 _ 67 rfl rfl (hd ⟨4, .data⟩ (by simp) rfl)
  refine ⟨Loose.wanted_none rfl _, fun K hK => ?_⟩
  replace h67 : a.tmps.getD 67 undef = (.slice (some ⟨g2, 0, none⟩) 1 1) := h67
  refine Loose.value_step (v := .pointer (some ⟨g2, 0, none⟩)) (w' := w) ?_ (hK _ _ (Below.refl _ _) rfl)
  unfold execOp
  simp only [Act.eval, h67]
  go_simp
-- operation 7: by hand
theorem k9steps (gb gO g1 g2 : Nat) (w0 : World) (a0 : Act) (Q : Exit → Act → World → Prop) (q1 : a0.tmps.getD 4 undef = .pointer (some ⟨gb, 0, none⟩)) (qg : w0.cell? ⟨gb, 0, none⟩ = some (.slice (some ⟨gO, 0, none⟩) 4 4)) (qF : FourAt w0 gO g1 g2 3 7) : ∀ (i : Nat) (o : Oper), i < 7 → k9ops[i]? = some o → Loose.Step Try.prog k9ops (Vk.at (k9tab gb gO g1 g2) w0.heap.size) w0 a0 Q i o := by
  intro i o hi ho
  rcases (by omega : i = 0 ∨ i = 1 ∨ i = 2 ∨ i = 3 ∨ i = 4 ∨ i = 5 ∨ i = 6) with rfl | rfl | rfl | rfl | rfl | rfl | rfl
  · exact k9step0 gb gO g1 g2 w0 a0 Q q1 qg qF o ho
  · exact k9step1 gb gO g1 g2 w0 a0 Q q1 qg qF o ho
  · exact k9step2 gb gO g1 g2 w0 a0 Q q1 qg qF o ho
  · exact k9step3 gb gO g1 g2 w0 a0 Q q1 qg qF o ho
  · exact k9step4 gb gO g1 g2 w0 a0 Q q1 qg qF o ho
  · exact k9step5 gb gO g1 g2 w0 a0 Q q1 qg qF o ho
  · exact k9step6 gb gO g1 g2 w0 a0 Q q1 qg qF o ho
set_option maxHeartbeats 4000000 in
set_option maxRecDepth 100000 in
theorem known_any (w : World) : Calls Try.prog 8 #[] w fun e w' => OneB true w e w' := by
  go_enter Try.func8, Try.ntmps8
  go_wp2_with (go_at_call 22; refine (of_exact _ _ _).mono ?_; rintro e w9 ⟨rfl, rfl⟩)
  show Code.wp Try.prog _ _ _ (badW w)
  have HBAD := Aside0.mk (badW_at w)
  have HB := Aside0.mk (badW_below w)
  generalize badW w = w1 at *
  obtain ⟨g, hg⟩ : ∃ g, g = w.heap.size + 1 + 1 + 1 + 1 + 1 + 1 + 1 + 1 + 1 + 1 + 1 + 1 + 1 := ⟨_, rfl⟩
  rw [← hg] at HBAD ⊢
  clear hg
  generalize w.heap.size + 1 + 1 + 1 + 1 + 1 + 1 + 1 + 1 + 1 + 1 + 1 + 1 = b7 at *
  generalize w.heap.size + 1 + 1 + 1 + 1 + 1 + 1 + 1 + 1 + 1 + 1 = b6 at *
  generalize w.heap.size + 1 + 1 + 1 + 1 + 1 + 1 + 1 + 1 = b5 at *
  generalize w.heap.size + 1 + 1 + 1 + 1 + 1 + 1 = b4 at *
  generalize w.heap.size + 1 + 1 + 1 + 1 = b3 at *
  generalize w.heap.size + 1 + 1 + 1 = b2 at *
  generalize w.heap.size + 1 = b1 at *
  go_loopw [2] (fun i wr => ∃ q : Nat, q ≤ 15 ∧ i = .int .i64 q ∧ Aside0 (BadAt wr g b1 b2 b3 b4 b5 b6 b7) ∧ Aside0 (Below w.heap.size w wr)) (fun i _ => 15 - (intOf i).toNat)
  case atStart => exact ⟨0, by omega, rfl, HBAD, HB⟩
  case round =>
    clear HBAD HB
    obtain ⟨q, hq, rfl, HBAD, HB⟩ := hrel
    by_cases hqt : q < 15
    · obtain ⟨x, A2, c2, hx, x0, x1, x2, x3, x4, hl2, hi2⟩ := bad_cells HBAD.out q hqt
      have hq0 : (0 : Int) ≤ (q : Int) := by omega
      have hq1 : (q : Int) < 15 := by omega
      have HX := Aside0.mk (bad_all x hx)
      have HSZ := Aside0.mk (bad_sizes x hx)
      go_wp2_with fail
      have HR : Aside0 (Kd.C k36 ((wr.alloc (.cells #[.int .i64 x.f0, .int .i64 x.f1, .slice A2 x.f2.length c2, .string x.f3, .int .i64 x.f4] 36)).alloc (.cells #[.slice (some ⟨wr.heap.size, 0, none⟩) 1 1] 24)) (some ⟨wr.heap.size, 0, none⟩) [x].length [x]) := ⟨C36_one (blk_alloc (blk_new _ _) _) hl2 (Kd.C_alloc (Kd.C_alloc hi2 _) _)⟩
      have HK : Aside0 (((wr.alloc (.cells #[.int .i64 x.f0, .int .i64 x.f1, .slice A2 x.f2.length c2, .string x.f3, .int .i64 x.f4] 36)).alloc (.cells #[.slice (some ⟨wr.heap.size, 0, none⟩) 1 1] 24)).heap[wr.heap.size + 1]? = some (.cells #[.slice (some ⟨wr.heap.size, 0, none⟩) 1 1] 24 (0, 0))) := ⟨blk_new' _ _ _ (by simp)⟩
      have HBAD2 := Aside0.mk (HBAD.out.below (below_alloc (below_alloc (Below.refl _ _) (.cells #[.int .i64 x.f0, .int .i64 x.f1, .slice A2 x.f2.length c2, .string x.f3, .int .i64 x.f4] 36)) (.cells #[.slice (some ⟨wr.heap.size, 0, none⟩) 1 1] 24)))
      have HB2 := Aside0.mk (below_alloc (below_alloc HB.out (.cells #[.int .i64 x.f0, .int .i64 x.f1, .slice A2 x.f2.length c2, .string x.f3, .int .i64 x.f4] 36)) (.cells #[.slice (some ⟨wr.heap.size, 0, none⟩) 1 1] 24))
      clear HBAD HB x0 x1 x2 x3 x4 hl2 hi2 hx
      generalize (wr.alloc (.cells #[.int .i64 x.f0, .int .i64 x.f1, .slice A2 x.f2.length c2, .string x.f3, .int .i64 x.f4] 36)).alloc (.cells #[.slice (some ⟨wr.heap.size, 0, none⟩) 1 1] 24) = w3 at *
      generalize wr.heap.size = nb at *
      (with_reducible refine (check_one HR.out HX.out).mono ?_)
      rintro e w4 ⟨rfl, hb⟩
      replace HR := Aside0.mk (Kd.C_below HR.out hb)
      replace HK := Aside0.mk ((hb.block _ (blk_lt HK.out)).trans HK.out)
      replace HBAD2 := Aside0.mk (HBAD2.out.below hb)
      replace HB2 := Aside0.mk (below_step HB2.out hb)
      clear hb
      have hc := (blk_cell HK.out 0).trans rfl
      go_wp2_with fail
      (with_reducible refine (into_one HR.out HSZ.out (into_none HX.out)).mono ?_)
      rintro e w5 ⟨v5, rfl, HO, hb⟩
      obtain ⟨A5, c5, rfl, _, _⟩ := Kd.R_reads HO
      replace HR := Aside0.mk (Kd.C_below HR.out hb)
      replace HK := Aside0.mk ((hb.block _ (blk_lt HK.out)).trans HK.out)
      replace HBAD2 := Aside0.mk (HBAD2.out.below hb)
      replace HB2 := Aside0.mk (below_step HB2.out hb)
      clear hb HO hc
      have hc := (blk_cell HK.out 0).trans rfl
      go_wp2_with fail
      (with_reducible refine (holders_one HR.out 0 1 (holders_none HX.out 0 1)).mono ?_)
      rintro e w6 ⟨v6, rfl, HO, hb⟩
      obtain ⟨A6, c6, rfl, _, _⟩ := Kd.R_reads HO
      replace HBAD2 := Aside0.mk (HBAD2.out.below hb)
      replace HB2 := Aside0.mk (below_step HB2.out hb)
      clear hb HO hc HK HR
      go_wp2_with fail
      go_roundw
      case rel => exact ⟨q + 1, by omega, by go_num, HBAD2, HB2⟩
      case measure => simp [intOf]; omega
    · have hq15 : q = 15 := by omega
      subst hq15
      clear HBAD
      go_wp2_with fail
      refine (four_any _).mono ?_
      rintro e w2 ⟨gO, h1, h2, rfl, hF, e0, e1, e2, n1, n2, hb⟩
      have hw0 := HB.out.size
      replace HB := Aside0.mk (below_step HB.out hb)
      have HF : Aside0 (FourAt (w2.alloc (.cells #[.slice (some ⟨gO, 0, none⟩) 4 4] 24)) gO h1 h2 3 7) := ⟨hF.below (below_alloc (Below.refl _ _) _)⟩
      have HG : Aside0 ((w2.alloc (.cells #[.slice (some ⟨gO, 0, none⟩) 4 4] 24)).heap[w2.heap.size]? = some (.cells #[.slice (some ⟨gO, 0, none⟩) 4 4] 24 (0, 0))) := ⟨blk_new _ _⟩
      have HB2 := Aside0.mk (below_alloc HB.out (.cells #[.slice (some ⟨gO, 0, none⟩) 4 4] 24))
      have hw1 := HB.out.size
      have hwr := hb.size
      have m0 := blk_lt hF.objs
      have m1 := blk_lt hF.one
      have m2 := blk_lt hF.two
      have E2 : w.heap.size ≤ h2 := by omega
      clear hF hb HB e0 e1 e2 hwr
      go_wp2_with fail
      obtain ⟨gb, hgb⟩ : ∃ gb, gb = w2.heap.size := ⟨_, rfl⟩
      rw [← hgb] at HG m0 m1 m2 hw1 ⊢
      generalize w2.alloc (.cells #[.slice (some ⟨gO, 0, none⟩) 4 4] 24) = w4 at *
      clear hgb
      have hc := (blk_cell HG.out 0).trans rfl
      refine Loose.region_last (ops := k9ops) (last := 7) (V := Vk.at (k9tab gb gO h1 h2) w4.drew.heap.size) (by kernel_rfl) (by kernel_rfl) k9deps (Loose.phase_of (by kernel_rfl)) (Vk.stable _ _) (Loose.ins_of (by kernel_rfl)) k9dsts rfl (k9steps gb gO h1 h2 w4.drew _ _ rfl ?q4 ?q5) ?q6
      case q4 => exact hc
      case q5 => exact HF.out.below (below_drew (Below.refl _ _))
      case q6 =>
        intro o listed a w5 ho hall hI
        have ho2 : (some ({ dst := none, op := Go.Op.store 40 (Go.Operand.tmp 69) (Go.Operand.tmp 68), type := 0, pos := "outright.go:133", after := #[{ on := 6, ground := Go.Ground.data }, { on := 5, ground := Go.Ground.data }, { on := 5, ground := Go.Ground.chain }, { on := 0, ground := Go.Ground.phase }, { on := 1, ground := Go.Ground.phase }, { on := 2, ground := Go.Ground.phase }, { on := 3, ground := Go.Ground.phase }, { on := 4, ground := Go.Ground.phase }, { on := 5, ground := Go.Ground.phase }], guard := none }) : Option Oper) = some o := ho
        obtain rfl := Option.some.inj ho2
        clear ho2 ho
        have s68 : a.tmps.getD 68 undef = .agg #[.int .i64 9, .int .i64 3] := hI.has 5 _ 68 rfl rfl (hall 5 (by decide))
        have s69 : a.tmps.getD 69 undef = .pointer (some ⟨h2, 0, none⟩) := hI.has 6 _ 69 rfl rfl (hall 6 (by decide))
        have s4 : a.tmps.getD 4 undef = .pointer (some ⟨gb, 0, none⟩) := (hI.others 4 (Loose.no_dst (by kernel_rfl))).trans rfl
        have ha := Loose.act_eq (hI.size.trans (show _ = 132 from rfl))
        rw [hI.defers] at ha
        have hb5 : Below w4.heap.size w4 w5 := (below_drew (Below.refl _ _)).trans hI.below
        replace HF := Aside0.mk (HF.out.below hb5)
        replace HG := Aside0.mk ((hb5.block _ (blk_lt HG.out)).trans HG.out)
        replace HB2 := Aside0.mk (below_step HB2.out hb5)
        clear hb5 hI hall hc
        have x4 : w5.cell? ⟨h2, 0, none⟩ = some (.int .i64 5) := (blk_cell HF.out.two 0).trans rfl
        have x5 : w5.cell? ⟨h2, 1, none⟩ = some (.int .i64 1) := (blk_cell HF.out.two 1).trans rfl
        have f4 := blk_frozen HF.out.two 0
        have f5 := blk_frozen HF.out.two 1
        refine ⟨Loose.wanted_none rfl _, ?_⟩
        refine Loose.skip_step (w' := (w5.setCell ⟨h2, 0, none⟩ (.int .i64 9)).setCell ⟨h2, 1, none⟩ (.int .i64 3)) ?_ ?_
        · unfold execOp
          simp only [Act.eval, s68, s69]
          go_simp
        show Exit.then _ _ _ a _
        clear x4 x5 f4 f5 s68 s69
        have n3 : gO ≠ h2 := by
          intro e
          have h := HF.out.objs
          rw [e, HF.out.two] at h
          simp at h
        have HF2 : Aside0 (FourBad ((w5.setCell ⟨h2, 0, none⟩ (.int .i64 9)).setCell ⟨h2, 1, none⟩ (.int .i64 3)) gO h1 h2) :=
          ⟨⟨blk_far (blk_far HF.out.objs (by exact n3) _) (by exact n3) _, blk_far (blk_far HF.out.one (by exact n2) _) (by exact n2) _, blk_put (blk_put HF.out.two 0 _ rfl) 1 _ rfl⟩⟩
        have HG2 := Aside0.mk (blk_far (blk_far HG.out (p := ⟨h2, 0, none⟩) (by show gb ≠ h2; omega) (.int .i64 9)) (p := ⟨h2, 1, none⟩) (by show gb ≠ h2; omega) (.int .i64 3))
        have HB3 := Aside0.mk ((HB2.out.setCell (p := ⟨h2, 0, none⟩) E2 (.int .i64 9)).setCell (p := ⟨h2, 1, none⟩) E2 (.int .i64 3))
        clear HF HG HB2
        generalize (w5.setCell ⟨h2, 0, none⟩ (.int .i64 9)).setCell ⟨h2, 1, none⟩ (.int .i64 3) = w6 at *
        rw [ha]
        clear ha
        show Exit.then _ _ _ ⟨#[a.tmps.getD 0 undef, a.tmps.getD 1 undef, a.tmps.getD 2 undef, a.tmps.getD 3 undef, a.tmps.getD 4 undef, a.tmps.getD 5 undef, a.tmps.getD 6 undef, a.tmps.getD 7 undef, a.tmps.getD 8 undef, a.tmps.getD 9 undef, a.tmps.getD 10 undef, a.tmps.getD 11 undef, a.tmps.getD 12 undef, a.tmps.getD 13 undef, a.tmps.getD 14 undef, a.tmps.getD 15 undef, a.tmps.getD 16 undef, a.tmps.getD 17 undef, a.tmps.getD 18 undef, a.tmps.getD 19 undef, a.tmps.getD 20 undef, a.tmps.getD 21 undef, a.tmps.getD 22 undef, a.tmps.getD 23 undef, a.tmps.getD 24 undef, a.tmps.getD 25 undef, a.tmps.getD 26 undef, a.tmps.getD 27 undef, a.tmps.getD 28 undef, a.tmps.getD 29 undef, a.tmps.getD 30 undef, a.tmps.getD 31 undef, a.tmps.getD 32 undef, a.tmps.getD 33 undef, a.tmps.getD 34 undef, a.tmps.getD 35 undef, a.tmps.getD 36 undef, a.tmps.getD 37 undef, a.tmps.getD 38 undef, a.tmps.getD 39 undef, a.tmps.getD 40 undef, a.tmps.getD 41 undef, a.tmps.getD 42 undef, a.tmps.getD 43 undef, a.tmps.getD 44 undef, a.tmps.getD 45 undef, a.tmps.getD 46 undef, a.tmps.getD 47 undef, a.tmps.getD 48 undef, a.tmps.getD 49 undef, a.tmps.getD 50 undef, a.tmps.getD 51 undef, a.tmps.getD 52 undef, a.tmps.getD 53 undef, a.tmps.getD 54 undef, a.tmps.getD 55 undef, a.tmps.getD 56 undef, a.tmps.getD 57 undef, a.tmps.getD 58 undef, a.tmps.getD 59 undef, a.tmps.getD 60 undef, a.tmps.getD 61 undef, a.tmps.getD 62 undef, a.tmps.getD 63 undef, a.tmps.getD 64 undef, a.tmps.getD 65 undef, a.tmps.getD 66 undef, a.tmps.getD 67 undef, a.tmps.getD 68 undef, a.tmps.getD 69 undef, a.tmps.getD 70 undef, a.tmps.getD 71 undef, a.tmps.getD 72 undef, a.tmps.getD 73 undef, a.tmps.getD 74 undef, a.tmps.getD 75 undef, a.tmps.getD 76 undef, a.tmps.getD 77 undef, a.tmps.getD 78 undef, a.tmps.getD 79 undef, a.tmps.getD 80 undef, a.tmps.getD 81 undef, a.tmps.getD 82 undef, a.tmps.getD 83 undef, a.tmps.getD 84 undef, a.tmps.getD 85 undef, a.tmps.getD 86 undef, a.tmps.getD 87 undef, a.tmps.getD 88 undef, a.tmps.getD 89 undef, a.tmps.getD 90 undef, a.tmps.getD 91 undef, a.tmps.getD 92 undef, a.tmps.getD 93 undef, a.tmps.getD 94 undef, a.tmps.getD 95 undef, a.tmps.getD 96 undef, a.tmps.getD 97 undef, a.tmps.getD 98 undef, a.tmps.getD 99 undef, a.tmps.getD 100 undef, a.tmps.getD 101 undef, a.tmps.getD 102 undef, a.tmps.getD 103 undef, a.tmps.getD 104 undef, a.tmps.getD 105 undef, a.tmps.getD 106 undef, a.tmps.getD 107 undef, a.tmps.getD 108 undef, a.tmps.getD 109 undef, a.tmps.getD 110 undef, a.tmps.getD 111 undef, a.tmps.getD 112 undef, a.tmps.getD 113 undef, a.tmps.getD 114 undef, a.tmps.getD 115 undef, a.tmps.getD 116 undef, a.tmps.getD 117 undef, a.tmps.getD 118 undef, a.tmps.getD 119 undef, a.tmps.getD 120 undef, a.tmps.getD 121 undef, a.tmps.getD 122 undef, a.tmps.getD 123 undef, a.tmps.getD 124 undef, a.tmps.getD 125 undef, a.tmps.getD 126 undef, a.tmps.getD 127 undef, a.tmps.getD 128 undef, a.tmps.getD 129 undef, a.tmps.getD 130 undef, a.tmps.getD 131 undef], _⟩ _
        rw [s4]
        clear s4
        generalize a.tmps.getD 0 undef = y0
        generalize a.tmps.getD 1 undef = y1
        generalize a.tmps.getD 2 undef = y2
        generalize a.tmps.getD 3 undef = y3
        generalize a.tmps.getD 5 undef = y5
        generalize a.tmps.getD 6 undef = y6
        generalize a.tmps.getD 7 undef = y7
        generalize a.tmps.getD 8 undef = y8
        generalize a.tmps.getD 9 undef = y9
        generalize a.tmps.getD 10 undef = y10
        generalize a.tmps.getD 11 undef = y11
        generalize a.tmps.getD 12 undef = y12
        generalize a.tmps.getD 13 undef = y13
        generalize a.tmps.getD 14 undef = y14
        generalize a.tmps.getD 15 undef = y15
        generalize a.tmps.getD 16 undef = y16
        generalize a.tmps.getD 17 undef = y17
        generalize a.tmps.getD 18 undef = y18
        generalize a.tmps.getD 19 undef = y19
        generalize a.tmps.getD 20 undef = y20
        generalize a.tmps.getD 21 undef = y21
        generalize a.tmps.getD 22 undef = y22
        generalize a.tmps.getD 23 undef = y23
        generalize a.tmps.getD 24 undef = y24
        generalize a.tmps.getD 25 undef = y25
        generalize a.tmps.getD 26 undef = y26
        generalize a.tmps.getD 27 undef = y27
        generalize a.tmps.getD 28 undef = y28
        generalize a.tmps.getD 29 undef = y29
        generalize a.tmps.getD 30 undef = y30
        generalize a.tmps.getD 31 undef = y31
        generalize a.tmps.getD 32 undef = y32
        generalize a.tmps.getD 33 undef = y33
        generalize a.tmps.getD 34 undef = y34
        generalize a.tmps.getD 35 undef = y35
        generalize a.tmps.getD 36 undef = y36
        generalize a.tmps.getD 37 undef = y37
        generalize a.tmps.getD 38 undef = y38
        generalize a.tmps.getD 39 undef = y39
        generalize a.tmps.getD 40 undef = y40
        generalize a.tmps.getD 41 undef = y41
        generalize a.tmps.getD 42 undef = y42
        generalize a.tmps.getD 43 undef = y43
        generalize a.tmps.getD 44 undef = y44
        generalize a.tmps.getD 45 undef = y45
        generalize a.tmps.getD 46 undef = y46
        generalize a.tmps.getD 47 undef = y47
        generalize a.tmps.getD 48 undef = y48
        generalize a.tmps.getD 49 undef = y49
        generalize a.tmps.getD 50 undef = y50
        generalize a.tmps.getD 51 undef = y51
        generalize a.tmps.getD 52 undef = y52
        generalize a.tmps.getD 53 undef = y53
        generalize a.tmps.getD 54 undef = y54
        generalize a.tmps.getD 55 undef = y55
        generalize a.tmps.getD 56 undef = y56
        generalize a.tmps.getD 57 undef = y57
        generalize a.tmps.getD 58 undef = y58
        generalize a.tmps.getD 59 undef = y59
        generalize a.tmps.getD 60 undef = y60
        generalize a.tmps.getD 61 undef = y61
        generalize a.tmps.getD 62 undef = y62
        generalize a.tmps.getD 63 undef = y63
        generalize a.tmps.getD 64 undef = y64
        generalize a.tmps.getD 65 undef = y65
        generalize a.tmps.getD 66 undef = y66
        generalize a.tmps.getD 67 undef = y67
        generalize a.tmps.getD 68 undef = y68
        generalize a.tmps.getD 69 undef = y69
        generalize a.tmps.getD 70 undef = y70
        generalize a.tmps.getD 71 undef = y71
        generalize a.tmps.getD 72 undef = y72
        generalize a.tmps.getD 73 undef = y73
        generalize a.tmps.getD 74 undef = y74
        generalize a.tmps.getD 75 undef = y75
        generalize a.tmps.getD 76 undef = y76
        generalize a.tmps.getD 77 undef = y77
        generalize a.tmps.getD 78 undef = y78
        generalize a.tmps.getD 79 undef = y79
        generalize a.tmps.getD 80 undef = y80
        generalize a.tmps.getD 81 undef = y81
        generalize a.tmps.getD 82 undef = y82
        generalize a.tmps.getD 83 undef = y83
        generalize a.tmps.getD 84 undef = y84
        generalize a.tmps.getD 85 undef = y85
        generalize a.tmps.getD 86 undef = y86
        generalize a.tmps.getD 87 undef = y87
        generalize a.tmps.getD 88 undef = y88
        generalize a.tmps.getD 89 undef = y89
        generalize a.tmps.getD 90 undef = y90
        generalize a.tmps.getD 91 undef = y91
        generalize a.tmps.getD 92 undef = y92
        generalize a.tmps.getD 93 undef = y93
        generalize a.tmps.getD 94 undef = y94
        generalize a.tmps.getD 95 undef = y95
        generalize a.tmps.getD 96 undef = y96
        generalize a.tmps.getD 97 undef = y97
        generalize a.tmps.getD 98 undef = y98
        generalize a.tmps.getD 99 undef = y99
        generalize a.tmps.getD 100 undef = y100
        generalize a.tmps.getD 101 undef = y101
        generalize a.tmps.getD 102 undef = y102
        generalize a.tmps.getD 103 undef = y103
        generalize a.tmps.getD 104 undef = y104
        generalize a.tmps.getD 105 undef = y105
        generalize a.tmps.getD 106 undef = y106
        generalize a.tmps.getD 107 undef = y107
        generalize a.tmps.getD 108 undef = y108
        generalize a.tmps.getD 109 undef = y109
        generalize a.tmps.getD 110 undef = y110
        generalize a.tmps.getD 111 undef = y111
        generalize a.tmps.getD 112 undef = y112
        generalize a.tmps.getD 113 undef = y113
        generalize a.tmps.getD 114 undef = y114
        generalize a.tmps.getD 115 undef = y115
        generalize a.tmps.getD 116 undef = y116
        generalize a.tmps.getD 117 undef = y117
        generalize a.tmps.getD 118 undef = y118
        generalize a.tmps.getD 119 undef = y119
        generalize a.tmps.getD 120 undef = y120
        generalize a.tmps.getD 121 undef = y121
        generalize a.tmps.getD 122 undef = y122
        generalize a.tmps.getD 123 undef = y123
        generalize a.tmps.getD 124 undef = y124
        generalize a.tmps.getD 125 undef = y125
        generalize a.tmps.getD 126 undef = y126
        generalize a.tmps.getD 127 undef = y127
        generalize a.tmps.getD 128 undef = y128
        generalize a.tmps.getD 129 undef = y129
        generalize a.tmps.getD 130 undef = y130
        generalize a.tmps.getD 131 undef = y131
        have hc := (blk_cell HG2.out 0).trans rfl
        clear a listed
        go_wp2_with (go_at_call 22; refine (of_exact _ _ _).mono ?_; rintro e w9 ⟨rfl, rfl⟩)
        show Calls _ _ _ (selfW w6) _
        have HA : Aside0 (Kn w gb gO h1 h2 (w6.heap.size + 1 + 1 + 1) (w6.heap.size + 1 + 1 + 1 + 1) (w6.heap.size + 1 + 1 + 1 + 1 + 1) (selfW w6)) :=
          ⟨⟨HF2.out.below (selfW_below w6), ((selfW_below w6).block _ (blk_lt HG2.out)).trans HG2.out, selfW_at w6, below_step HB3.out (selfW_below w6)⟩⟩
        clear HF2 HG2 HB3 hc
        generalize selfW w6 = w7 at *
        generalize w6.heap.size + 1 + 1 + 1 + 1 + 1 = gh at *
        generalize w6.heap.size + 1 + 1 + 1 + 1 = gx at *
        generalize w6.heap.size + 1 + 1 + 1 = gs at *
        have hcd : True := trivial
        (with_reducible refine (tallowlaw10_works.calls true _ rfl).mono ?_)
        rintro e w10 ⟨rfl, hb⟩
        replace HA := Aside0.mk (HA.out.step hb)
        clear hb hcd
        have hcd := HA.out.cells
        obtain ⟨hc, hd⟩ := hcd
        go_wp2_with fail
        have hcd : True := trivial
        clear hc hd
        (with_reducible refine (check_bad HA.out.F).mono ?_)
        rintro e w11 ⟨rfl, hb⟩
        replace HA := Aside0.mk (HA.out.step hb)
        clear hb hcd
        have hcd := HA.out.cells
        obtain ⟨hc, hd⟩ := hcd
        go_wp2_with fail
        have hcd : True := trivial
        clear hc hd
        (with_reducible refine (check_one HA.out.S.reads self_check).mono ?_)
        rintro e w12 ⟨rfl, hb⟩
        replace HA := Aside0.mk (HA.out.step hb)
        clear hb hcd
        have hcd := HA.out.cells
        obtain ⟨hc, hd⟩ := hcd
        go_wp2_with fail
        have hcd : True := trivial
        clear hc hd
        (with_reducible refine (into_one HA.out.S.reads self_sizes self_into).mono ?_)
        rintro e w13 ⟨v13, rfl, HO, hb⟩
        obtain ⟨A13, c13, rfl, k13, _⟩ := Kd.R_reads HO
        have HC13 := Aside0.mk (Kd.R_reads' HO).2.2
        have hk13 := Aside0.mk k13
        clear HO k13
        replace HA := Aside0.mk (HA.out.step hb)
        clear hb hcd
        have hcd := HA.out.cells
        obtain ⟨hc, hd⟩ := hcd
        go_wp2_with fail
        have hcd : True := trivial
        clear hc hd
        replace HA := Aside0.mk (HA.out.step (below_alloc (Below.refl _ _) (.cells #[.int .i64 2] 3)))
        (with_reducible refine (ints_one HC13.out hk13.out i2).mono ?_)
        rintro e w14 ⟨rfl, hb⟩
        replace HA := Aside0.mk (HA.out.step hb)
        clear hb hcd
        have hcd := HA.out.cells
        obtain ⟨hc, hd⟩ := hcd
        go_wp2_with fail
        have hcd : True := trivial
        clear hc hd
        (with_reducible refine (exact_self HA.out.S).mono ?_)
        rintro e w15 ⟨v15, rfl, HO, hb⟩
        obtain ⟨A15, c15, rfl, k15, _⟩ := Kd.R_reads HO
        have HC15 := Aside0.mk (Kd.R_reads' HO).2.2
        have hk15 := Aside0.mk k15
        clear HO k15
        replace HA := Aside0.mk (HA.out.step hb)
        clear hb hcd
        have hcd := HA.out.cells
        obtain ⟨hc, hd⟩ := hcd
        go_wp2_with fail
        have hcd : True := trivial
        clear hc hd
        replace HA := Aside0.mk (HA.out.step (below_alloc (Below.refl _ _) (.cells #[.int .i64 1] 3)))
        (with_reducible refine (ints_one HC15.out hk15.out i1).mono ?_)
        rintro e w16 ⟨rfl, hb⟩
        replace HA := Aside0.mk (HA.out.step hb)
        clear hb hcd
        have hcd := HA.out.cells
        obtain ⟨hc, hd⟩ := hcd
        go_wp2_with fail
        have hcd : True := trivial
        clear hc hd
        (with_reducible refine (check_nil _).mono ?_)
        rintro e w17 ⟨rfl, hb⟩
        replace HA := Aside0.mk (HA.out.step hb)
        clear hb hcd
        have hcd := HA.out.cells
        obtain ⟨hc, hd⟩ := hcd
        go_wp2_with fail
        have hcd : True := trivial
        clear hc hd
        (with_reducible refine (into_nil _).mono ?_)
        rintro e w18 ⟨v18, rfl, HO, hb⟩
        obtain ⟨A18, c18, rfl, k18, _⟩ := Kd.R_reads HO
        have HC18 := Aside0.mk (Kd.R_reads' HO).2.2
        have hk18 := Aside0.mk k18
        clear HO k18
        replace HA := Aside0.mk (HA.out.step hb)
        clear hb hcd
        have hcd := HA.out.cells
        obtain ⟨hc, hd⟩ := hcd
        go_wp2_with fail
        have hcd : True := trivial
        clear hc hd
        refine (four_any _).mono ?_
        rintro e w20 ⟨gO20, k1, k2, rfl, hF, _, _, _, _, _, hb⟩
        replace hF := Aside0.mk hF
        replace HA := Aside0.mk (HA.out.step hb)
        clear hb hcd
        have hcd := HA.out.cells
        obtain ⟨hc, hd⟩ := hcd
        go_wp2_with fail
        have hcd : True := trivial
        clear hc hd
        (with_reducible refine (holders_four hF.out 3 hold3).mono ?_)
        rintro e w21 ⟨v21, rfl, HO, hb⟩
        obtain ⟨A21, c21, rfl, k21, _⟩ := Kd.R_reads HO
        have HC21 := Aside0.mk (Kd.R_reads' HO).2.2
        have hk21 := Aside0.mk k21
        clear HO k21
        replace HA := Aside0.mk (HA.out.step hb)
        clear hb hcd
        have hcd := HA.out.cells
        obtain ⟨hc, hd⟩ := hcd
        go_wp2_with fail
        have hcd : True := trivial
        clear hc hd
        clear hF
        (with_reducible refine (ints_nil HC21.out).mono ?_)
        rintro e w22 ⟨rfl, hb⟩
        replace HA := Aside0.mk (HA.out.step hb)
        clear hb hcd
        have hcd := HA.out.cells
        obtain ⟨hc, hd⟩ := hcd
        go_wp2_with fail
        have hcd : True := trivial
        clear hc hd
        refine (four_any _).mono ?_
        rintro e w24 ⟨gO24, k1, k2, rfl, hF, _, _, _, _, _, hb⟩
        replace hF := Aside0.mk hF
        replace HA := Aside0.mk (HA.out.step hb)
        clear hb hcd
        have hcd := HA.out.cells
        obtain ⟨hc, hd⟩ := hcd
        go_wp2_with fail
        have hcd : True := trivial
        clear hc hd
        (with_reducible refine (holders_four hF.out (-1) holdm).mono ?_)
        rintro e w25 ⟨v25, rfl, HO, hb⟩
        obtain ⟨A25, c25, rfl, k25, _⟩ := Kd.R_reads HO
        have HC25 := Aside0.mk (Kd.R_reads' HO).2.2
        have hk25 := Aside0.mk k25
        clear HO k25
        replace HA := Aside0.mk (HA.out.step hb)
        clear hb hcd
        have hcd := HA.out.cells
        obtain ⟨hc, hd⟩ := hcd
        go_wp2_with fail
        have hcd : True := trivial
        clear hc hd
        clear hF
        (with_reducible refine (ints_nil HC25.out).mono ?_)
        rintro e w26 ⟨rfl, hb⟩
        replace HA := Aside0.mk (HA.out.step hb)
        clear hb hcd
        have hcd := HA.out.cells
        obtain ⟨hc, hd⟩ := hcd
        go_wp2_with fail
        have hcd : True := trivial
        clear hc hd
        refine (four_any _).mono ?_
        rintro e w28 ⟨gO28, k1, k2, rfl, hF, _, _, _, _, _, hb⟩
        replace hF := Aside0.mk hF
        replace HA := Aside0.mk (HA.out.step hb)
        clear hb hcd
        have hcd := HA.out.cells
        obtain ⟨hc, hd⟩ := hcd
        go_wp2_with fail
        have hcd : True := trivial
        clear hc hd
        (with_reducible refine (holders_four hF.out 99 hold99).mono ?_)
        rintro e w29 ⟨v29, rfl, HO, hb⟩
        obtain ⟨A29, c29, rfl, k29, _⟩ := Kd.R_reads HO
        have HC29 := Aside0.mk (Kd.R_reads' HO).2.2
        have hk29 := Aside0.mk k29
        clear HO k29
        replace HA := Aside0.mk (HA.out.step hb)
        clear hb hcd
        have hcd := HA.out.cells
        obtain ⟨hc, hd⟩ := hcd
        go_wp2_with fail
        have hcd : True := trivial
        clear hc hd
        clear hF
        (with_reducible refine (ints_nil HC29.out).mono ?_)
        rintro e w30 ⟨rfl, hb⟩
        replace HA := Aside0.mk (HA.out.step hb)
        clear hb hcd
        have hcd := HA.out.cells
        obtain ⟨hc, hd⟩ := hcd
        go_wp2_with fail
        have hcd : True := trivial
        clear hc hd
        (with_reducible refine (holders_one HA.out.S.reads 20 1 self_hold).mono ?_)
        rintro e w32 ⟨v32, rfl, HO, hb⟩
        obtain ⟨A32, c32, rfl, k32, _⟩ := Kd.R_reads HO
        have HC32 := Aside0.mk (Kd.R_reads' HO).2.2
        have hk32 := Aside0.mk k32
        clear HO k32
        replace HA := Aside0.mk (HA.out.step hb)
        clear hb hcd
        have hcd := HA.out.cells
        obtain ⟨hc, hd⟩ := hcd
        go_wp2_with fail
        have hcd : True := trivial
        clear hc hd
        replace HA := Aside0.mk (HA.out.step (below_alloc (Below.refl _ _) (.cells #[.int .i64 1] 3)))
        (with_reducible refine (ints_one HC32.out hk32.out i1).mono ?_)
        rintro e w33 ⟨rfl, hb⟩
        replace HA := Aside0.mk (HA.out.step hb)
        go_wp2_with fail
        go_ret
        exact ⟨rfl, HA.out.B⟩
def tallowlaw10_GraphKnown.f : Option (Bool) := some true
theorem tallowlaw10_GraphKnown.calls (r : Bool) (w : World) (h : tallowlaw10_GraphKnown.f = some r) :
    Calls Try.prog 8 #[] w fun e w' => e = .returned (.bool r) ∧ Below w.heap.size w w' := by
  obtain rfl : true = r := Option.some.inj h
  exact known_any w
end Go.Proofs.Ytlpieciihlgdiaa.G
