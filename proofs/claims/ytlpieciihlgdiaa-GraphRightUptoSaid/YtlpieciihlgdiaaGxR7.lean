-- GraphRight, walked by hand
import Derived.Test.YtlpieciihlgdiaaPSums
import Derived.Test.YtlpieciihlgdiaaGxF16
import Derived.Lib.Hide
import Derived.Maps.OwnOps
import Derived.Maps.OwnSet
import Derived.Maps.Views
namespace Go.Proofs.Ytlpieciihlgdiaa.G
open Go.RowKit Go.Proofs.YtlpieciihlgdiaaW.PrintWords Go.Proofs.YtlpieciihlgdiaaW.PrintLast Go.Proofs.YtlpieciihlgdiaaW.PrintMore
set_option linter.unusedVariables false
set_option linter.unusedSimpArgs false
/-! a graph whose counts are other ones -/
def withC (l : List S36) (c : Nat → Int) : List S36 := l.mapIdx fun i x => { x with f1 := c i }
theorem withC_len (l : List S36) (c : Nat → Int) : (withC l c).length = l.length := by simp [withC]
theorem withC_at (l : List S36) (c : Nat → Int) (i : Nat) (h : i < l.length) : rd_T36 (withC l c) (i : Int) = { rd_T36 l (i : Int) with f1 := c i } := by
  have h2 : i < (withC l c).length := by rw [withC_len]; exact h
  rw [rd36 _ i h2, rd36 l i h]
  simp [withC]
theorem withC_f0 (l : List S36) (c : Nat → Int) (n : Int) : (rd_T36 (withC l c) n).f0 = (rd_T36 l n).f0 := by
  rcases Nat.lt_or_ge n.toNat l.length with h | h
  · have e1 : rd_T36 (withC l c) n = rd_T36 (withC l c) ((n.toNat : Nat) : Int) := rfl
    have e2 : rd_T36 l n = rd_T36 l ((n.toNat : Nat) : Int) := rfl
    rw [e1, e2, withC_at l c _ h]
  · have h2 : (withC l c).length ≤ n.toNat := by rw [withC_len]; exact h
    unfold rd_T36
    rw [List.getD_eq_getElem?_getD, List.getD_eq_getElem?_getD, List.getElem?_eq_none h, List.getElem?_eq_none h2]
theorem withC_mem {l : List S36} {c : Nat → Int} {x : S36} (h : x ∈ withC l c) : ∃ (i : Nat) (hi : i < l.length), x = { l[i] with f1 := c i } := by
  obtain ⟨i, hi, e⟩ := List.mem_iff_getElem.1 h
  have h2 : i < l.length := by rw [withC_len] at hi; exact hi
  refine ⟨i, h2, ?_⟩
  rw [← e]; simp [withC]
theorem withC_slot (l : List S36) (c : Nat → Int) (a b : Int) : slotB (withC l c) a b = slotB l a b := by
  unfold slotB; rw [withC_len, withC_f0]
theorem withC_check {l : List S36} {c : Nat → Int} (h : checkB l = true) (hc : ∀ (i : Nat) (hi : i < l.length), (l[i].f0 = 0 → c i = l[i].f1) ∧ (l[i].f0 ≠ 0 → 0 ≤ c i)) : checkB (withC l c) = true := by
  have hall : ∀ x ∈ withC l c, objB (withC l c) x = true := by
    intro x hx
    obtain ⟨i, hi, rfl⟩ := withC_mem hx
    have ho : objB l l[i] = true := by
      cases h1 : objB l l[i]
      · have : l.any (fun x => !objB l x) = true := List.any_eq_true.2 ⟨l[i], List.getElem_mem hi, by rw [h1]; rfl⟩
        unfold checkB at h; rw [this] at h; cases h
      · rfl
    obtain ⟨c1, c2⟩ := hc i hi
    unfold objB at ho ⊢
    by_cases h0 : l[i].f0 = 0
    · rw [if_pos h0] at ho; rw [if_pos h0]
      unfold freeB at ho ⊢
      rw [c1 h0]; exact ho
    · rw [if_neg h0] at ho; rw [if_neg h0]
      unfold restB headB slotsB at ho ⊢
      simp only [withC_slot]
      have d1 : decide (c i ≥ 0) = true := decide_eq_true (c2 h0)
      rw [d1]
      simp only [Bool.and_eq_true] at ho ⊢
      exact ⟨⟨ho.1.1, ho.1.2.1, trivial, ho.1.2.2.2⟩, ho.2⟩
  unfold checkB
  have : (withC l c).any (fun x => !objB (withC l c) x) = false := by
    rw [List.any_eq_false]; intro x hx; rw [hall x hx]; simp
  rw [this]; rfl
theorem withC_refs (l : List S36) (c : Nat → Int) : allRefs (withC l c) = allRefs l := by
  unfold allRefs withC
  rw [List.flatMap_def, List.flatMap_def]
  congr 1
  apply List.ext_getElem
  · simp
  · intro i h1 h2; simp
theorem withC_into {l : List S36} {c : Nat → Int} (h : checkB l = true) (h2 : checkB (withC l c) = true) : intoL (withC l c) = intoL l := by
  unfold intoL; rw [if_pos h, if_pos h2, withC_len, withC_refs]
/-- the count that is right -/
def rightC (l : List S36) (more : List S40) (i : Nat) : Int := wrap64 (cnt (allRefs l) ((i : Int) + 1) + cnt (refsL more) ((i : Int) + 1))
theorem withC_ex {l : List S36} {c : Nat → Int} {more : List S40} (h : checkB l = true) (h2 : checkB (withC l c) = true) {i : Nat} (hi : i < l.length) : exB (withC l c) more i = (!((rd_T36 l (i : Int)).f0 == 0) && !(c i == rightC l more i)) := by
  unfold exB rightC
  rw [withC_f0, withC_at l c i hi, withC_into h h2]
  have := intoL_at h hi
  have e : rd (intoL l) (i : Int) = (intoL l).getD i 0 := rfl
  rw [← e, this]
theorem exact_right {l : List S36} {c : Nat → Int} {more : List S40} (h : checkB l = true) (h2 : checkB (withC l c) = true) (hc : ∀ (i : Nat) (hi : i < l.length), l[i].f0 ≠ 0 → c i = rightC l more i) : exactL (withC l c) more = [] := by
  unfold exactL
  rw [withC_into h h2]
  have hl : (intoL l).length = l.length := by unfold intoL; rw [if_pos h]; simp
  rw [hl]
  have : ∀ k, k ≤ l.length → exTo (withC l c) more k = [] := by
    intro k
    induction k with
    | zero => intro _; simp [exTo]
    | succ k ih =>
      intro hk
      have hlt : k < l.length := by omega
      rw [exTo_no, ih (by omega)]
      rw [withC_ex h h2 hlt, rd36 l k hlt]
      by_cases h0 : l[k].f0 = 0
      · have e : (l[k].f0 == 0) = true := by simpa using h0
        rw [e]; rfl
      · rw [hc k hlt h0]; simp
  exact this _ (Nat.le_refl _)
theorem exact_one {l : List S36} {c : Nat → Int} {more : List S40} (h : checkB l = true) (h2 : checkB (withC l c) = true) (j : Nat) (hj : j < l.length) (hj0 : l[j].f0 ≠ 0) (hcj : c j ≠ rightC l more j) (hc : ∀ (i : Nat) (hi : i < l.length), i ≠ j → l[i].f0 ≠ 0 → c i = rightC l more i) : exactL (withC l c) more = [(j : Int) + 1] := by
  unfold exactL
  rw [withC_into h h2]
  have hl : (intoL l).length = l.length := by unfold intoL; rw [if_pos h]; simp
  rw [hl]
  have : ∀ k, k ≤ l.length → exTo (withC l c) more k = if j < k then [(j : Int) + 1] else [] := by
    intro k
    induction k with
    | zero => intro _; simp [exTo]
    | succ k ih =>
      intro hk
      have hlt : k < l.length := by omega
      by_cases e : k = j
      · subst e
        have hb : exB (withC l c) more k = true := by
          rw [withC_ex h h2 hlt, rd36 l k hlt]
          have e1 : (l[k].f0 == 0) = false := beq_eq_false_iff_ne.2 hj0
          have e2 : (c k == rightC l more k) = false := beq_eq_false_iff_ne.2 hcj
          rw [e1, e2]; rfl
        rw [exTo_yes hb, ih (by omega), if_neg (by omega), if_pos (by omega)]; rfl
      · rw [exTo_no, ih (by omega)]
        · by_cases hjk : j < k
          · rw [if_pos hjk, if_pos (by omega)]
          · rw [if_neg hjk, if_neg (by omega)]
        · rw [withC_ex h h2 hlt, rd36 l k hlt]
          by_cases h0 : l[k].f0 = 0
          · have e : (l[k].f0 == 0) = true := by simpa using h0
            rw [e]; rfl
          · rw [hc k hlt e h0]; simp
  rw [this _ (Nat.le_refl _), if_pos hj]
/-- no more than 2^20 slots -/
def slotsN (l : List S36) : Nat := (l.map fun x => x.f2.length).sum
theorem allRefs_le (l : List S36) : (allRefs l).length ≤ slotsN l := by
  unfold allRefs slotsN
  induction l with
  | nil => simp
  | cons x l ih =>
    rw [List.flatMap_cons, List.length_append, List.map_cons, List.sum_cons]
    have := refsL_le x.f2
    omega
theorem cnt_small {xs : List Int} (h : xs.length ≤ 2097152) (x : Int) : 0 ≤ cnt xs x ∧ cnt xs x ≤ 2097152 := by
  have := List.count_le_length (a := x) (l := xs)
  unfold cnt
  rw [w64 (by omega) (by omega)]
  omega
theorem rightC_small {l : List S36} {more : List S40} (h1 : slotsN l ≤ 2097152) (h2 : more.length ≤ 2097152) (i : Nat) : 0 ≤ rightC l more i ∧ rightC l more i ≤ 4194304 := by
  have a1 := cnt_small (xs := allRefs l) (Nat.le_trans (allRefs_le l) h1) ((i : Int) + 1)
  have a2 := cnt_small (xs := refsL more) (Nat.le_trans (refsL_le more) h2) ((i : Int) + 1)
  unfold rightC
  rw [w64 (by omega) (by omega)]
  omega
theorem exact_none {l : List S36} (more : List S40) (h : checkB l = false) : exactL l more = [] := by
  have hi : intoL l = [] := by unfold intoL; rw [if_neg (by rw [h]; decide)]
  unfold exactL; rw [hi]; rfl
/-- how the counts are, when those of the first q objects are made right -/
def made (l : List S36) (more : List S40) (q : Nat) (i : Nat) : Int := if i < q ∧ (rd_T36 l (i : Int)).f0 ≠ 0 then rightC l more i else (rd_T36 l (i : Int)).f1
/-! a row of objects that the call made, with counts of its own -/
def Shape (w0 : World) (l : List S36) (c : Nat → Int) (xs : List Value) : Prop :=
  ∀ i : Nat, i < l.length → ∃ A2 c2, xs[i * 5]? = some (.int .i64 (rd_T36 l (i : Int)).f0) ∧ xs[i * 5 + 1]? = some (.int .i64 (c i)) ∧ xs[i * 5 + 2]? = some (.slice A2 (rd_T36 l (i : Int)).f2.length c2) ∧ xs[i * 5 + 3]? = some (.string (rd_T36 l (i : Int)).f3) ∧ xs[i * 5 + 4]? = some (.int .i64 (rd_T36 l (i : Int)).f4) ∧ (rd_T36 l (i : Int)).f2.length ≤ c2 ∧ k40.C w0 A2 (rd_T36 l (i : Int)).f2.length (rd_T36 l (i : Int)).f2
def RowH (w0 : World) (l : List S36) (c : Nat → Int) (w : World) (v : Value) : Prop := ∃ xs, w.ownsRow w0.heap.size 36 5 v l.length xs ∧ Shape w0 l c xs
theorem RowH.below {w0 w w' : World} {l : List S36} {c : Nat → Int} {v : Value} (h : RowH w0 l c w v) (hb : Below w.heap.size w w') : RowH w0 l c w' v := by
  obtain ⟨xs, h1, h2⟩ := h
  refine ⟨xs, own_move h1 (fun k hk => ?_), h2⟩
  rcases h1.2 with ⟨rfl, _⟩ | ⟨g, cap, cur, rfl, _, hg, _⟩
  · simp [Value.ownBlock] at hk
  · simp [Value.ownBlock] at hk
    subst hk
    exact hb.block _ (blk_lt hg)
theorem RowH.congr {w0 w : World} {l : List S36} {c c' : Nat → Int} {v : Value} (h : RowH w0 l c w v) (e : ∀ i, i < l.length → c i = c' i) : RowH w0 l c' w v := by
  obtain ⟨xs, h1, h2⟩ := h
  refine ⟨xs, h1, fun i hi => ?_⟩
  obtain ⟨A2, c2, e0, e1, e2⟩ := h2 i hi
  exact ⟨A2, c2, e0, by rw [← e i hi]; exact e1, e2⟩
theorem RowH.cells {w0 w : World} {l : List S36} {c : Nat → Int} {g cap : Nat} (h : RowH w0 l c w (.slice (some ⟨g, 0, none⟩) l.length cap)) (i : Nat) (hi : i < l.length) :
    w.cell? ⟨g, i * 5, none⟩ = some (.int .i64 (rd_T36 l (i : Int)).f0) ∧ w.cell? ⟨g, i * 5 + 1, none⟩ = some (.int .i64 (c i)) := by
  obtain ⟨xs, h1, h2⟩ := h
  obtain ⟨A2, c2, e0, e1, _⟩ := h2 i hi
  exact ⟨(h1.cellAt _ (by omega)).trans e0, (h1.cellAt _ (by omega)).trans e1⟩
theorem RowH.frozen {w0 w : World} {l : List S36} {c : Nat → Int} {g cap : Nat} (h : RowH w0 l c w (.slice (some ⟨g, 0, none⟩) l.length cap)) (j : Nat) : w.frozen? ⟨g, j, none⟩ = false := by
  obtain ⟨xs, h1, h2⟩ := h
  exact h1.frozenAt j
theorem RowH.lt {w0 w : World} {l : List S36} {c : Nat → Int} {g cap : Nat} (h : RowH w0 l c w (.slice (some ⟨g, 0, none⟩) l.length cap)) : w0.heap.size ≤ g ∧ g < w.heap.size := by
  obtain ⟨xs, h1, h2⟩ := h
  rcases h1.2 with ⟨e, _⟩ | ⟨g', cap', cur, e, hb, hg, _⟩
  · simp at e
  · simp only [Value.slice.injEq, Option.some.injEq, Addr.mk.injEq, and_true, true_and] at e
    obtain ⟨rfl, rfl⟩ := e
    exact ⟨hb, blk_lt hg⟩
theorem RowH.put {w0 w : World} {l : List S36} {c : Nat → Int} {g cap : Nat} (h : RowH w0 l c w (.slice (some ⟨g, 0, none⟩) l.length cap)) (i : Nat) (hi : i < l.length) (n : Int) :
    RowH w0 l (fun j => if j = i then n else c j) (w.setCell ⟨g, i * 5 + 1, none⟩ (.int .i64 n)) (.slice (some ⟨g, 0, none⟩) l.length cap) ∧ w.grownBy (w.setCell ⟨g, i * 5 + 1, none⟩ (.int .i64 n)) (some g) := by
  obtain ⟨xs, h1, h2⟩ := h
  obtain ⟨h3, h4⟩ := h1.stored (i * 5 + 1) (.int .i64 n)
  refine ⟨⟨_, h3, fun j hj => ?_⟩, h4⟩
  have hlen := h1.1
  obtain ⟨A2, c2, e0, e1, e2, e3, e4, e5⟩ := h2 j hj
  refine ⟨A2, c2, ?_, ?_, ?_, ?_, ?_, e5⟩
  · rw [List.getElem?_set_ne (by omega)]; exact e0
  · by_cases hji : j = i
    · subst hji
      dsimp only
      rw [if_pos rfl, List.getElem?_set_self (by omega)]
    · dsimp only
      rw [if_neg hji, List.getElem?_set_ne (by omega)]; exact e1
  · rw [List.getElem?_set_ne (by omega)]; exact e2
  · rw [List.getElem?_set_ne (by omega)]; exact e3
  · rw [List.getElem?_set_ne (by omega)]; exact e4
theorem RowH.reads {w0 w : World} {l : List S36} {c : Nat → Int} {g cap : Nat} (h : RowH w0 l c w (.slice (some ⟨g, 0, none⟩) l.length cap)) (hb : Below w0.heap.size w0 w) (hl : l.length ≤ 9223372036854775807) :
    Kd.C k36 w (some ⟨g, 0, none⟩) (withC l c).length (withC l c) := by
  obtain ⟨xs, h1, h2⟩ := h
  refine ⟨rfl, by rw [withC_len]; exact hl, fun _ => ⟨⟨g, 0, none⟩, rfl, fun j p hp => ?_⟩⟩
  have hj : j < l.length := by
    rcases Nat.lt_or_ge j l.length with h' | h'
    · exact h'
    · rw [List.getElem?_eq_none (by rw [withC_len]; exact h')] at hp; cases hp
  have hpe : p = { rd_T36 l (j : Int) with f1 := c j } := by
    rw [← withC_at l c j hj, rd36 _ j (by rw [withC_len]; exact hj)]
    rw [List.getElem?_eq_getElem (by rw [withC_len]; exact hj)] at hp
    exact (Option.some.inj hp).symm
  subst hpe
  obtain ⟨A2, c2, e0, e1, e2, e3, e4, e5, e6⟩ := h2 j hj
  refine ⟨[.int .i64 (rd_T36 l (j : Int)).f0, .int .i64 (c j), .slice A2 (rd_T36 l (j : Int)).f2.length c2, .string (rd_T36 l (j : Int)).f3, .int .i64 (rd_T36 l (j : Int)).f4], rfl, k36_mk w { rd_T36 l (j : Int) with f1 := c j } e5 (Kd.C_below e6 hb), fun i u hu => ?_⟩
  have hat : ∀ m, m < l.length * 5 → w.cell? ((⟨g, 0, none⟩ : Addr).add m) = xs[m]? := fun m hm => by
    have := h1.cellAt m hm
    rw [Addr.add_lit, Nat.zero_add]; exact this
  match i, hu with
  | 0, hu => rw [show j * k36.sz + 0 = j * 5 from rfl, hat _ (by omega), e0]; exact hu
  | 1, hu => rw [show j * k36.sz + 1 = j * 5 + 1 from rfl, hat _ (by omega), e1]; exact hu
  | 2, hu => rw [show j * k36.sz + 2 = j * 5 + 2 from rfl, hat _ (by omega), e2]; exact hu
  | 3, hu => rw [show j * k36.sz + 3 = j * 5 + 3 from rfl, hat _ (by omega), e3]; exact hu
  | 4, hu => rw [show j * k36.sz + 4 = j * 5 + 4 from rfl, hat _ (by omega), e4]; exact hu
/-- the cells that are copied -/
def copied (w : World) (ad : Addr) (n : Nat) : List Value := (List.range (n * 5)).map fun j => (w.cell? (ad.add j)).getD (.int .i64 0)
theorem copied_len (w : World) (ad : Addr) (n : Nat) : (copied w ad n).length = n * 5 := by simp [copied]
theorem copied_at {w : World} {ad : Addr} {n j : Nat} (hj : j < n * 5) {u : Value} (h : w.cell? (ad.add j) = some u) : (copied w ad n)[j]? = some u := by
  unfold copied; rw [List.getElem?_map, List.getElem?_range hj]; simp [h]
theorem copy_cells {w : World} {ad : Addr} {l : List S36} (h : Kd.C k36 w (some ad) l.length l) (i : Nat) (hi : i < l.length) : ∃ A2 c2,
    w.cell? (ad.add (i * 5)) = some (.int .i64 (rd_T36 l (i : Int)).f0) ∧ w.cell? (ad.add (i * 5 + 1)) = some (.int .i64 (rd_T36 l (i : Int)).f1) ∧ w.cell? (ad.add (i * 5 + 2)) = some (.slice A2 (rd_T36 l (i : Int)).f2.length c2) ∧ w.cell? (ad.add (i * 5 + 3)) = some (.string (rd_T36 l (i : Int)).f3) ∧ w.cell? (ad.add (i * 5 + 4)) = some (.int .i64 (rd_T36 l (i : Int)).f4) ∧ (rd_T36 l (i : Int)).f2.length ≤ c2 ∧ k40.C w A2 (rd_T36 l (i : Int)).f2.length (rd_T36 l (i : Int)).f2 := by
  obtain ⟨ad', c, e, _, hK, hc0⟩ := Kd.C_get h z36 (i : Int) (by omega) (by omega)
  cases e
  rw [Int.toNat_natCast] at hc0 hK
  have hc : ∀ j u, c[j]? = some u → w.cell? (ad.add (i * 5 + j)) = some u := hc0
  obtain ⟨A2, c2, rfl, l2, g2⟩ := k36_open hK
  have hx : l.getD i z36 = rd_T36 l (i : Int) := rfl
  rw [hx] at hc l2 g2
  exact ⟨A2, c2, hc 0 _ rfl, hc 1 _ rfl, hc 2 _ rfl, hc 3 _ rfl, hc 4 _ rfl, l2, g2⟩
theorem copied_shape {w w0 : World} {ad : Addr} {l : List S36} (h : Kd.C k36 w (some ad) l.length l) (h0 : Kd.C k36 w0 (some ad) l.length l) (hb : Below w0.heap.size w0 w) : Shape w0 l (fun i => (rd_T36 l (i : Int)).f1) (copied w ad l.length) := by
  intro i hi
  obtain ⟨A2, c2, e0, e1, e2, e3, e4, e5, e6⟩ := copy_cells h0 i hi
  have kp : ∀ {m : Nat} {u : Value}, w0.cell? (ad.add m) = some u → w.cell? (ad.add m) = some u := fun hu => (hb.cell (World.block_lt_of_cell? w0 _ hu)).trans hu
  exact ⟨A2, c2, copied_at (by omega) (kp e0), copied_at (by omega) (kp e1), copied_at (by omega) (kp e2), copied_at (by omega) (kp e3), copied_at (by omega) (kp e4), e5, e6⟩
theorem copied_all {w : World} {ad : Addr} {l : List S36} (h : Kd.C k36 w (some ad) l.length l) : ∀ j u, (copied w ad l.length)[j]? = some u → w.cell? (ad.add j) = some u ∧ u.oneCell' = true := by
  intro j u hu
  have hj : j < l.length * 5 := by
    rcases Nat.lt_or_ge j (l.length * 5) with h' | h'
    · exact h'
    · rw [List.getElem?_eq_none (by rw [copied_len]; exact h')] at hu; cases hu
  have hi : j / 5 < l.length := by omega
  obtain ⟨A2, c2, e0, e1, e2, e3, e4, _⟩ := copy_cells h (j / 5) hi
  have hm : j % 5 < 5 := Nat.mod_lt _ (by omega)
  have hd : j = j / 5 * 5 + j % 5 := by omega
  have go : ∀ {m : Nat} {x : Value}, w.cell? (ad.add m) = some x → x.oneCell' = true → j = m → w.cell? (ad.add j) = some u ∧ u.oneCell' = true := by
    intro m x hx h1 e
    subst e
    have := copied_at (n := l.length) hj hx
    rw [this] at hu
    obtain rfl := Option.some.inj hu
    exact ⟨hx, h1⟩
  have cases5 : j % 5 = 0 ∨ j % 5 = 1 ∨ j % 5 = 2 ∨ j % 5 = 3 ∨ j % 5 = 4 := by omega
  rcases cases5 with e | e | e | e | e
  · exact go e0 rfl (by omega)
  · exact go e1 rfl (by omega)
  · exact go e2 rfl (by omega)
  · exact go e3 rfl (by omega)
  · exact go e4 rfl (by omega)
theorem below_alone {w w' : World} (h : w.grownBy w' none) : Below w.heap.size w w' := Below.grown (Below.refl _ _) h (Nat.le_refl _) (fun k hk => by cases hk)
theorem append_first {ops : Array Oper} {rest : List Oper} {o : Oper} {a : Act} {Q : Exit → Act → World → Prop} {w0 W : World} (hgd : o.guard = none) (s x : Operand)
    (ho : o.op = .call { callee := .builtin .append, args := #[s, x], argTypes := #[22, 22] }) (l : List S36) (hl : 0 < l.length) (ad : Addr) (c0 : Nat) (hs : a.eval s = .slice none 0 0) (hx : a.eval x = .slice (some ad) l.length c0)
    (h0 : Kd.C k36 w0 (some ad) l.length l) (hb : Below w0.heap.size w0 W) (hz : l.length ≤ 2097152)
    (h : ∀ g cap w1, g = W.heap.size → RowH w0 l (fun i => (rd_T36 l (i : Int)).f1) w1 (.slice (some ⟨g, 0, none⟩) l.length cap) → l.length ≤ cap → Below w0.heap.size w0 w1 → Below W.heap.size W w1 → wpList Try.prog ops Q rest (a.put o.dst (.slice (some ⟨g, 0, none⟩) l.length cap)) w1) : wpList Try.prog ops Q (o :: rest) a W := by
  have hinfo : (Try.prog.info? 36).map (fun i => (i.zero, i.size, i.bytes)) = some (some (.agg #[.int .i64 0, .int .i64 0, .slice none 0 0, .string ByteArray.empty, .int .i64 0]), 5, 64) := by kernel_rfl
  obtain ⟨i0, hi, hz0, hz1, hz2⟩ := info_parts hinfo
  have h1 := Kd.C_below h0 hb
  refine wpList_append_own_at W hgd s x 22 ho w0.heap.size 36 i0 _ 5 64 Try.underlying22 hi hz0 hz1 hz2 (by kernel_rfl) (by decide) (.slice none 0 0) 0 [] hs (World.ownsRow_nil W _ _ _) ad l.length c0 (copied W ad l.length) hx (copied_len _ _ _)
    (fun j u hj => (copied_all h1 j u hj).1) (fun u hu => by obtain ⟨j, hj⟩ := List.getElem?_of_mem hu; exact (copied_all h1 j u hj).2) (by simp only [maxLen]; omega) (by omega) hb.size ?_
  intro v1 w1 hown hg hnil hat
  rw [Nat.zero_add, List.nil_append] at hown
  have hB : Below W.heap.size W w1 := below_alone hg
  have hsh : RowH w0 l (fun i => (rd_T36 l (i : Int)).f1) w1 v1 := ⟨_, hown, copied_shape h1 h0 hb⟩
  rcases hown.2 with ⟨_, e⟩ | ⟨g, cap, cur, rfl, hbg, hh, hnc, _⟩
  · omega
  · have hge : g = W.heap.size := by
      rcases hat with e | e
      · simp [Value.ownBlock] at e
      · simpa [Value.ownBlock] using e
    exact h g cap w1 hge hsh hnc (below_step hb hB) hB
theorem append_none {ops : Array Oper} {rest : List Oper} {o : Oper} {a : Act} {Q : Exit → Act → World → Prop} {W : World} (hgd : o.guard = none) (s x : Operand)
    (ho : o.op = .call { callee := .builtin .append, args := #[s, x], argTypes := #[22, 22] }) (A : Option Addr) (c0 : Nat) (hs : a.eval s = .slice none 0 0) (hx : a.eval x = .slice A 0 c0)
    (h : wpList Try.prog ops Q rest (a.put o.dst (.slice none 0 0)) W) : wpList Try.prog ops Q (o :: rest) a W := by
  have hinfo : (Try.prog.info? 36).map (fun i => (i.zero, i.size, i.bytes)) = some (some (.agg #[.int .i64 0, .int .i64 0, .slice none 0 0, .string ByteArray.empty, .int .i64 0]), 5, 64) := by kernel_rfl
  obtain ⟨i0, hi, hz0, hz1, hz2⟩ := info_parts hinfo
  have hr : (Builtin.append_ #[22, 22] o.type #[.slice none 0 0, .slice A 0 c0]).run Try.prog W = .ok (.slice none 0 0) W := by
    cases A <;> simp [Builtin.append_, run_underlying Try.underlying22, sizeOf, typeInfo, hi, Builtin.lenOf, Builtin.firstCells, loadCells, loadCellsFrom]
  refine wpList_plain hgd fun K hK => ?_
  unfold Oper.wp execOp
  simp only [ho, resolve, invoke, builtin, Sem.run_bind, Sem.run_pure, Result.andThen_ok, List.map_toArray, List.map_cons, List.map_nil, hs, hx, hr]
  exact hK _ _ h
theorem RowH.other {w0 w : World} {l : List S36} {c : Nat → Int} {g cap : Nat} (h : RowH w0 l c w (.slice (some ⟨g, 0, none⟩) l.length cap)) {a : Addr} (ha : g ≠ a.block) (u : Value) : RowH w0 l c (w.setCell a u) (.slice (some ⟨g, 0, none⟩) l.length cap) := by
  obtain ⟨xs, h1, h2⟩ := h
  refine ⟨xs, own_move h1 (fun k hk => ?_), h2⟩
  simp [Value.ownBlock] at hk
  subst hk
  exact heap_setCell_other w a g u (by omega)
theorem grown_set (w : World) (b o : Nat) (u : Value) : w.grownBy (w.setCell ⟨b, o, none⟩ u) (some b) := ⟨rfl, rfl, rfl, by simp, fun k _ hk => heap_setCell_other w ⟨b, o, none⟩ k u (fun e => hk (by simp [e]))⟩
/-- where the loop is: the row's counts, and what else is read -/
structure St (w : World) (l : List S36) (more : List S40) (g cap b b3 b6 : Nat) (A3 : Option Addr) (c3 : Nat) (A6 : Option Addr) (c6 : Nat) (c : Nat → Int) (wr : World) : Prop where
  RH : RowH w l c wr (.slice (some ⟨g, 0, none⟩) l.length cap)
  HK : wr.cell? ⟨b, 0, none⟩ = some (.slice (some ⟨g, 0, none⟩) l.length cap)
  HI : Kd.R (Kd.int .i64) 3 wr b3 (fun k => k ≠ g) (.slice A3 l.length c3) (intoL l)
  HR : Kd.R (Kd.int .i64) 3 wr b6 (fun k => k ≠ g) (.slice A6 (refsL more).length c6) (refsL more)
  HB : Below w.heap.size w wr
  ne : b ≠ g
section
variable {w : World} {l : List S36} {more : List S40} {g cap b b3 b6 : Nat} {A3 : Option Addr} {c3 : Nat} {A6 : Option Addr} {c6 : Nat} {c : Nat → Int} {wr : World}
theorem St.put (h : St w l more g cap b b3 b6 A3 c3 A6 c6 c wr) (i : Nat) (hi : i < l.length) (n : Int) : St w l more g cap b b3 b6 A3 c3 A6 c6 (fun j => if j = i then n else c j) (wr.setCell ⟨g, i * 5 + 1, none⟩ (.int .i64 n)) := by
  obtain ⟨h1, h2⟩ := h.RH.put i hi n
  exact ⟨h1, cell_grown h2 h.HK (fun e => h.ne (Option.some.inj e)), Kd.R_grown h.HI h2 (fun k hk => by intro e; injection e with e; exact hk e), Kd.R_grown h.HR h2 (fun k hk => by intro e; injection e with e; exact hk e), h.HB.setCell (p := ⟨g, i * 5 + 1, none⟩) h.RH.lt.1 _, h.ne⟩
theorem St.congr {c' : Nat → Int} (h : St w l more g cap b b3 b6 A3 c3 A6 c6 c wr) (e : ∀ i, i < l.length → c i = c' i) : St w l more g cap b b3 b6 A3 c3 A6 c6 c' wr := ⟨h.RH.congr e, h.HK, h.HI, h.HR, h.HB, h.ne⟩
theorem St.step {w' : World} (h : St w l more g cap b b3 b6 A3 c3 A6 c6 c wr) (hb : Below wr.heap.size wr w') : St w l more g cap b b3 b6 A3 c3 A6 c6 c w' :=
  ⟨h.RH.below hb, cell_below hb h.HK, Kd.R_grown h.HI (grown_of_below hb none) (fun k hk => by simp), Kd.R_grown h.HR (grown_of_below hb none) (fun k hk => by simp), below_step h.HB hb, h.ne⟩
end
theorem made_zero (l : List S36) (more : List S40) : made l more 0 = fun i : Nat => (rd_T36 l (i : Int)).f1 := by funext i; unfold made; rw [if_neg (by omega)]
theorem made_free {l : List S36} {more : List S40} {q : Nat} (h : (rd_T36 l (q : Int)).f0 = 0) (i : Nat) : made l more q i = made l more (q + 1) i := by
  unfold made
  by_cases e : i = q
  · subst e; rw [if_neg (by omega), if_neg (fun hh => hh.2 h)]
  · by_cases h1 : i < q ∧ (rd_T36 l (i : Int)).f0 ≠ 0
    · rw [if_pos h1, if_pos ⟨by omega, h1.2⟩]
    · rw [if_neg h1, if_neg (fun hh => h1 ⟨by omega, hh.2⟩)]
theorem made_next {l : List S36} {more : List S40} {q : Nat} (h : (rd_T36 l (q : Int)).f0 ≠ 0) (i : Nat) : (if i = q then rightC l more q else made l more q i) = made l more (q + 1) i := by
  unfold made
  by_cases e : i = q
  · subst e; rw [if_pos rfl, if_pos ⟨by omega, h⟩]
  · rw [if_neg e]
    by_cases h1 : i < q ∧ (rd_T36 l (i : Int)).f0 ≠ 0
    · rw [if_pos h1, if_pos ⟨by omega, h1.2⟩]
    · rw [if_neg h1, if_neg (fun hh => h1 ⟨by omega, hh.2⟩)]
/-- a count that is on its way -/
def midC (l : List S36) (more : List S40) (q m i : Nat) : Int := if i = q then wrap64 (cnt (allRefs l) ((q : Int) + 1) + cnt ((refsL more).take m) ((q : Int) + 1)) else made l more q i
theorem midC_zero {l : List S36} {more : List S40} {q : Nat} (i : Nat) : (if i = q then cnt (allRefs l) ((q : Int) + 1) else made l more q i) = midC l more q 0 i := by
  unfold midC
  by_cases e : i = q
  · rw [if_pos e, if_pos e, List.take_zero, cnt_nil]; dsimp only; rw [Int.add_zero]; unfold cnt wrap64; omega
  · rw [if_neg e, if_neg e]
theorem midC_yes {l : List S36} {more : List S40} {q m : Nat} {y : Int} (h : y = (q : Int) + 1) (hT : (refsL more).take (m + 1) = (refsL more).take m ++ [y]) (i : Nat) : (if i = q then wrap64 (midC l more q m q + 1) else midC l more q m i) = midC l more q (m + 1) i := by
  unfold midC
  by_cases e : i = q
  · rw [if_pos e, if_pos e, if_pos rfl, hT, cnt_step]
    dsimp only
    rw [if_pos h.symm, h]
    unfold wrap64; omega
  · rw [if_neg e, if_neg e, if_neg e]
theorem midC_no {l : List S36} {more : List S40} {q m : Nat} {y : Int} (h : y ≠ (q : Int) + 1) (hT : (refsL more).take (m + 1) = (refsL more).take m ++ [y]) (i : Nat) : midC l more q m i = midC l more q (m + 1) i := by
  unfold midC
  by_cases e : i = q
  · rw [if_pos e, if_pos e, hT, cnt_step]
    dsimp only
    rw [if_neg (fun hh => h hh.symm)]
  · rw [if_neg e, if_neg e]
theorem midC_end {l : List S36} {more : List S40} {q m : Nat} (h : (rd_T36 l (q : Int)).f0 ≠ 0) (hm : m = (refsL more).length) (i : Nat) : midC l more q m i = made l more (q + 1) i := by
  rw [← made_next h i]
  unfold midC rightC
  rw [hm, List.take_length]
theorem withC_sizes {l : List S36} (c : Nat → Int) (h : sizesB l = true) : sizesB (withC l c) = true := by
  obtain ⟨z1, z2⟩ := sizes_at h
  unfold sizesB
  simp only [Bool.and_eq_true, decide_eq_true_eq, List.all_eq_true]
  refine ⟨by rw [withC_len]; exact z1, fun x hx => ?_⟩
  obtain ⟨i, hi, rfl⟩ := withC_mem hx
  exact z2 i hi
theorem made_all (l : List S36) (more : List S40) (i : Nat) (hi : i < l.length) : (l[i].f0 = 0 → made l more l.length i = l[i].f1) ∧ (l[i].f0 ≠ 0 → made l more l.length i = rightC l more i) := by
  unfold made
  rw [rd36 l i hi]
  exact ⟨fun h => if_neg (fun hh => hh.2 h), fun h => if_pos ⟨hi, h⟩⟩
theorem made_check {l : List S36} {more : List S40} (h : checkB l = true) (h1 : slotsN l ≤ 2097152) (h2 : more.length ≤ 2097152) : checkB (withC l (made l more l.length)) = true :=
  withC_check h fun i hi => ⟨(made_all l more i hi).1, fun h0 => by rw [(made_all l more i hi).2 h0]; exact (rightC_small h1 h2 i).1⟩
theorem made_exact {l : List S36} {more : List S40} (h : checkB l = true) (h1 : slotsN l ≤ 2097152) (h2 : more.length ≤ 2097152) : exactL (withC l (made l more l.length)) more = [] :=
  exact_right h (made_check h h1 h2) fun i hi h0 => (made_all l more i hi).2 h0
theorem made_exact1 {l : List S36} {more : List S40} (h : checkB l = true) (h1 : slotsN l ≤ 2097152) (h2 : more.length ≤ 2097152) (j : Nat) (hj : j < l.length) (h0 : l[j].f0 ≠ 0) :
    exactL (withC l (fun i => if i = j then wrap64 (made l more l.length j + 1) else made l more l.length i)) more = [(j : Int) + 1] := by
  have hs := rightC_small h1 h2 j
  have hj2 := (made_all l more j hj).2 h0
  have hw : wrap64 (made l more l.length j + 1) = rightC l more j + 1 := by rw [hj2, w64 (by omega) (by omega)]
  have hck : checkB (withC l (fun i => if i = j then wrap64 (made l more l.length j + 1) else made l more l.length i)) = true := withC_check h fun i hi => by
    by_cases e : i = j
    · subst e
      rw [if_pos rfl, hw]
      exact ⟨fun hh => absurd hh h0, fun _ => by omega⟩
    · rw [if_neg e]
      exact ⟨(made_all l more i hi).1, fun hh => by rw [(made_all l more i hi).2 hh]; exact (rightC_small h1 h2 i).1⟩
  refine exact_one h hck j hj h0 ?_ ?_
  · rw [if_pos rfl, hw]; omega
  · intro i hi hne hh
    rw [if_neg hne]; exact (made_all l more i hi).2 hh
theorem exact_with {w : World} {l : List S36} {more : List S40} {g cap b b3 b6 : Nat} {A3 : Option Addr} {c3 : Nat} {A6 : Option Addr} {c6 : Nat} {c : Nat → Int} {wr : World} (h : St w l more g cap b b3 b6 A3 c3 A6 c6 c wr)
    (hz : sizesB l = true) (hm : more.length ≤ 8796093022208) (hll : l.length ≤ 2097152) {A1 : Option Addr} {c1 : Nat} (h1 : Kd.C k40 w A1 more.length more) (hc1 : more.length ≤ c1) (hcap : l.length ≤ cap) {r : List Int} (hx : exactL (withC l c) more = r) :
    Calls Try.prog 16 #[.agg #[.slice (some ⟨g, 0, none⟩) l.length cap], .slice A1 more.length c1] wr fun e w' => RowOut r wr e w' := by
  subst hx
  have h2 := exact_any (some ⟨g, 0, none⟩) cap (withC l c) A1 c1 more wr (withC_sizes c hz) hm (h.RH.reads h.HB (by omega)) (by rw [withC_len]; exact hcap) (Kd.C_below h1 h.HB) hc1
  rw [withC_len] at h2
  exact h2
theorem ints_same_from (xs : List Int) (hl : xs.length ≤ 17592186044416) (d : Nat) : ∀ (k i : Nat), xs.length - i = d → i ≤ xs.length → d < k → tallowlaw10_ints.l0 k xs xs i = some true := by
  induction d with
  | zero =>
    intro k i hd hi hk
    obtain ⟨k, rfl⟩ : ∃ m, k = m + 1 := ⟨k - 1, by omega⟩
    rw [tallowlaw10_ints.l0, if_neg (by omega)]
  | succ d ih =>
    intro k i hd hi hk
    obtain ⟨k, rfl⟩ : ∃ m, k = m + 1 := ⟨k - 1, by omega⟩
    have hc : ((i : Int) + 1) = ((i + 1 : Nat) : Int) := by omega
    rw [tallowlaw10_ints.l0, if_pos (by omega), if_pos (by omega), if_pos (by omega), if_pos rfl, w64 (by omega) (by omega), hc]
    exact ih k (i + 1) (by omega) (by omega) (by omega)
theorem ints_same (xs : List Int) (hl : xs.length ≤ 17592186044416) : tallowlaw10_ints.f (xs.length + 1) xs xs = some true := by
  unfold tallowlaw10_ints.f
  rw [if_pos rfl]
  exact ints_same_from xs hl xs.length _ 0 (by omega) (by omega) (by omega)
set_option maxHeartbeats 4000000 in
theorem right_any (A0 : Option Addr) (c0 : Nat) (l : List S36) (A1 : Option Addr) (c1 : Nat) (more : List S40) (n : Int) (w : World) (hz : sizesB l = true) (hsn : slotsN l ≤ 2097152) (hll : l.length ≤ 2097152) (hml : more.length ≤ 2097152) (hn : (Lit.int .i64 n).wf = true)
    (hr : Kd.C k36 w A0 l.length l) (hc : l.length ≤ c0) (hr1 : Kd.C k40 w A1 more.length more) (hc1 : more.length ≤ c1) :
    Calls Try.prog 7 #[.agg #[.slice A0 l.length c0], .slice A1 more.length c1, .int .i64 n] w fun e w' => OneB true w e w' := by
  have HS := Aside0.mk hr
  have HC := Aside0.mk hc
  have HS1 := Aside0.mk hr1
  have HC1 := Aside0.mk hc1
  have HZ := Aside0.mk hz
  have HN := Aside0.mk hn
  have HSN := Aside0.mk hsn
  have HML : Aside0 (more.length ≤ 8796093022208) := ⟨by omega⟩
  clear hr hc hr1 hc1 hz hn hsn
  by_cases hch : checkB l = true
  · have HCH := Aside0.mk hch
    clear hch
    go_enter Try.func7, Try.ntmps7
    go_wp2_with fail
    (with_reducible refine (tallowlaw10_works.calls true _ rfl).mono ?_)
    rintro e w1 ⟨rfl, hb⟩
    have HB : Aside0 (Below w.heap.size w w1) := Aside0.mk (below_step (below_alloc (Below.refl _ _) _) hb)
    have hg : w1.cell? ⟨w.heap.size, 0, none⟩ = some (.slice A0 l.length c0) := (hb.cell (p := ⟨w.heap.size, 0, none⟩) (by simp)).trans (by go_simp)
    clear hb
    go_wp2_with fail
    (with_reducible refine (check_any A0 c0 l _ true HCH.out (Kd.C_below HS.out HB.out) HC.out).mono ?_)
    rintro e w2 ⟨rfl, hb⟩
    have HB2 : Aside0 (Below w.heap.size w w2) := Aside0.mk (below_step HB.out hb)
    have hg2 := cell_below hb hg
    clear hb hg HB
    go_wp2_with fail
    (with_reducible refine (into_any A0 c0 l _ HZ.out (Kd.C_below HS.out HB2.out) HC.out).mono ?_)
    rintro e w3 ⟨v3, rfl, HO3, hb⟩
    have HB3 : Aside0 (Below w.heap.size w w3) := Aside0.mk (below_step HB2.out hb)
    have hg3 := cell_below hb hg2
    obtain ⟨A3, c3, rfl, h3c, _⟩ := Kd.R_reads HO3
    have hil : (intoL l).length = l.length := by unfold intoL; rw [if_pos HCH.out]; simp
    have HO3' := Aside0.mk HO3
    rw [hil] at HO3' ⊢
    clear HO3 hg2 HB2 h3c hil
    by_cases hpos : 0 < l.length
    · obtain ⟨ad, rfl, _⟩ := HS.out.2.2 hpos
      have hlt3 := World.block_lt_of_cell? w3 _ hg3
      have hg4 : (w3.alloc (.cells #[.slice none 0 0] 24)).cell? ⟨w.heap.size, 0, none⟩ = some (.slice (some ad) l.length c0) := (World.cell?_alloc_lt _ _ _ (by exact hlt3)).trans hg3
      go_wp2_with (at_builtin; refine append_first (w0 := w) rfl (.tmp 25) (.tmp 27) rfl l hpos ad c0 (by first | rfl | simp [Act.eval]) (by first | rfl | simp [Act.eval]) HS.out ?hb hll ?_; (case hb => exact below_alloc HB3.out _); intro g cap w4 hge RH hcap hB hBW; have hk4 : w4.heap[w3.heap.size]? = some (.cells #[.slice none 0 0] 24 (0, 0)) := (hBW.block _ (by simp)).trans (blk_new w3 _); have hkc : w4.cell? ⟨w3.heap.size, 0, none⟩ = some (.slice none 0 0) := (blk_cell hk4 0).trans rfl; have hkf : w4.frozen? ⟨w3.heap.size, 0, none⟩ = false := blk_frozen hk4 0; replace RH := Aside0.mk RH; replace hB := Aside0.mk hB; replace hBW := Aside0.mk hBW; replace hge := Aside0.mk hge)
      have hge0 : g = w3.heap.size + 1 := by have := hge.out; simpa using this
      have hbw3 : w.heap.size ≤ w3.heap.size := HB3.out.size
      have hb23 : w2.heap.size ≤ w3.heap.size := hb.size
      have HB5 : Aside0 (Below w.heap.size w (w4.setCell ⟨w3.heap.size, 0, none⟩ (.slice (some ⟨g, 0, none⟩) l.length cap))) := ⟨hB.out.setCell (p := ⟨w3.heap.size, 0, none⟩) hbw3 _⟩
      have RH5 : Aside0 (RowH w l (fun i : Nat => (rd_T36 l (i : Int)).f1) (w4.setCell ⟨w3.heap.size, 0, none⟩ (.slice (some ⟨g, 0, none⟩) l.length cap)) (.slice (some ⟨g, 0, none⟩) l.length cap)) := ⟨RH.out.other (by show g ≠ w3.heap.size; omega) _⟩
      have HK5 : Aside0 ((w4.setCell ⟨w3.heap.size, 0, none⟩ (.slice (some ⟨g, 0, none⟩) l.length cap)).cell? ⟨w3.heap.size, 0, none⟩ = some (.slice (some ⟨g, 0, none⟩) l.length cap)) := ⟨by go_simp⟩
      have HI5 : Aside0 (Kd.R (Kd.int .i64) 3 (w4.setCell ⟨w3.heap.size, 0, none⟩ (.slice (some ⟨g, 0, none⟩) l.length cap)) w2.heap.size (fun k => k ≠ g) (.slice A3 l.length c3) (intoL l)) := ⟨by
        have h1 : Kd.R (Kd.int .i64) 3 w3 w2.heap.size (fun k => k ≠ g ∧ k ≠ w3.heap.size) (.slice A3 l.length c3) (intoL l) := Kd.R_mono (Kd.R_bound HO3'.out) (fun k hk => by have := hk.2.2.1; omega)
        have h2 := Kd.R_grown (Kd.R_alloc h1 (.cells #[.slice none 0 0] 24)) (grown_of_below hBW.out none) (fun k hk => by simp)
        exact Kd.R_mono (Kd.R_grown h2 (grown_set w4 w3.heap.size 0 _) (fun k hk => by intro e; injection e with e; exact hk.2 e)) (fun k hk => hk.1)⟩
      obtain ⟨b, hbb⟩ : ∃ b, b = w3.heap.size := ⟨_, rfl⟩
      have hne : b ≠ g := by omega
      have hwb : w.heap.size ≤ b := by omega
      rw [← hbb] at HB5 RH5 HK5 HI5 ⊢
      have hg5 : g < (w4.setCell ⟨b, 0, none⟩ (.slice (some ⟨g, 0, none⟩) l.length cap)).heap.size := RH5.out.lt.2
      generalize w4.setCell ⟨b, 0, none⟩ (.slice (some ⟨g, 0, none⟩) l.length cap) = w5 at *
      clear hkc hkf hk4 hBW hB RH hge hge0 hbw3 hb23 hbb HO3' hg3 hg4 hlt3 HB3
      (with_reducible refine (refs_any 0 A1 c1 more _ (Kd.C_below HS1.out HB5.out) HC1.out HML.out).mono ?_)
      rintro e w6 ⟨v6, rfl, HO6, hb6⟩
      obtain ⟨A6, c6, rfl, h6c, _⟩ := Kd.R_reads HO6
      have HST : Aside0 (St w l more g cap b w2.heap.size w5.heap.size A3 c3 A6 c6 (made l more 0) w6) := ⟨by
        rw [made_zero]
        exact ⟨RH5.out.below hb6, cell_below hb6 HK5.out, Kd.R_grown HI5.out (grown_of_below hb6 none) (fun k hk => by simp), Kd.R_mono (Kd.R_bound HO6) (fun k hk => by have := hk.2.1; omega), below_step HB5.out hb6, hne⟩⟩
      obtain ⟨b3, hb3⟩ : ∃ b3, b3 = w2.heap.size := ⟨_, rfl⟩
      obtain ⟨b6, hb6'⟩ : ∃ b6, b6 = w5.heap.size := ⟨_, rfl⟩
      rw [← hb3, ← hb6'] at HST
      obtain ⟨nr, hnr⟩ : ∃ nr, nr = (refsL more).length := ⟨_, rfl⟩
      have hnl : nr ≤ 2097152 := by rw [hnr]; exact Nat.le_trans (refsL_le more) hml
      rw [← hnr]
      have HNR := Aside0.mk hnr
      clear hb6 HO6 HB5 RH5 HK5 HI5 hb3 hb6' hnr h6c hg5 hb
      go_wp2_with fail
      go_loopw [10] (fun i wr => ∃ q : Nat, q ≤ l.length ∧ i = .int .i64 q ∧ Aside0 (St w l more g cap b b3 b6 A3 c3 A6 c6 (made l more q) wr)) (fun i _ => l.length - (intOf i).toNat)
      case atStart => exact ⟨0, Nat.zero_le _, rfl, HST⟩
      case round =>
        clear HST
        obtain ⟨q, hq, rfl, HST⟩ := hrel
        have hk := HST.out.HK
        have hkl := World.block_lt_of_cell? wr _ hk
        by_cases hqt : q < l.length
        · obtain ⟨x0, x1⟩ := HST.out.RH.cells q hqt
          have hfz := HST.out.RH.frozen
          by_cases hf0 : (rd_T36 l (q : Int)).f0 = 0
          · have hf0' : ((rd_T36 l (q : Int)).f0 == 0) = true := by simpa using hf0
            have HST2 := Aside0.mk (HST.out.congr (fun i _ => made_free (more := more) hf0 i))
            go_wp2_with fail
            go_roundw
            case rel => exact ⟨q + 1, by omega, by go_num, HST2⟩
            case measure => simp [intOf]; omega
          · have hf0' : ((rd_T36 l (q : Int)).f0 == 0) = false := by simpa using hf0
            have HF := Aside0.mk hf0
            have hC := (Kd.R_reads' HST.out.HI).2.2
            have hil : (intoL l).length = l.length := by unfold intoL; rw [if_pos HCH.out]; simp
            rw [hil] at hC
            obtain ⟨ad3, e3, y0⟩ := ints_at hC q hqt
            have hin : (intoL l).getD q 0 = cnt (allRefs l) ((q : Int) + 1) := intoL_at HCH.out hqt
            rw [hin] at y0
            cases e3
            have HM0 := Aside0.mk ((HST.out.put q hqt (cnt (allRefs l) ((q : Int) + 1))).congr (fun i _ => midC_zero (more := more) i))
            have hgl := HST.out.RH.lt.2
            clear hf0 hC hil hin
            generalize cnt (allRefs l) ((q : Int) + 1) = cq at *
            go_wp2_with fail
            have q0 : (0 : Int) ≤ (q : Int) := by omega
            have q1 : (q : Int) < (l.length : Int) := by omega
            go_region
            have HM1 := Aside0.mk (HM0.out.step (below_drew1 (Below.refl _ _)))
            generalize (wr.setCell ⟨g, q * 5 + 1, none⟩ (.int .i64 cq)).drew = wm at HM1 ⊢
            clear HM0 HST hk hkl x0 x1 hfz y0 hgl
            go_wp2_with fail
            go_loopw [11] (fun j wi => ∃ m : Nat, m ≤ nr ∧ j = .int .i64 m ∧ Aside0 (St w l more g cap b b3 b6 (some ad3) c3 A6 c6 (midC l more q m) wi)) (fun j _ => nr - (intOf j).toNat)
            case atStart => exact ⟨0, Nat.zero_le _, rfl, HM1⟩
            case round =>
              clear HM1
              obtain ⟨m, hm, rfl, HST⟩ := hrel
              have hk := HST.out.HK
              have hkl := World.block_lt_of_cell? wr _ hk
              obtain ⟨x0, x1⟩ := HST.out.RH.cells q hqt
              have hfz := HST.out.RH.frozen (q * 5 + 1)
              by_cases hmt : m < nr
              · have hC := (Kd.R_reads' HST.out.HR).2.2
                rw [← HNR.out] at hC
                obtain ⟨ad6, e6, y0⟩ := ints_at hC m hmt
                have hgl : (refsL more)[m]? = some ((refsL more).getD m 0) := by
                  rw [List.getD_eq_getElem?_getD, List.getElem?_eq_getElem (by rw [← HNR.out]; exact hmt)]; rfl
                have HT : Aside0 ((refsL more).take (m + 1) = (refsL more).take m ++ [(refsL more).getD m 0]) := ⟨by
                  rw [List.take_add_one, hgl]; rfl⟩
                clear hC hgl
                generalize (refsL more).getD m 0 = y at *
                cases e6
                by_cases hy : y = (q : Int) + 1
                · have HM2 := Aside0.mk ((HST.out.put q hqt (wrap64 (midC l more q m q + 1))).congr (fun i _ => midC_yes hy HT.out i))
                  subst hy
                  go_wp2_with fail
                  go_roundw
                  case rel => exact ⟨m + 1, by omega, by go_num, HM2⟩
                  case measure => simp [intOf]; omega
                · have hy' : (y == (q : Int) + 1) = false := by simpa using hy
                  have HM2 := Aside0.mk (HST.out.congr (fun i _ => midC_no hy HT.out i))
                  go_wp2_with fail
                  go_roundw
                  case rel => exact ⟨m + 1, by omega, by go_num, HM2⟩
                  case measure => simp [intOf]; omega
              · have hmn : m = nr := by omega
                have HM2 := Aside0.mk (HST.out.congr (fun i _ => midC_end HF.out (hmn.trans HNR.out) i))
                clear hmn
                go_wp2_with fail
                go_roundw
                case rel => exact ⟨q + 1, by omega, by go_num, HM2⟩
                case measure => simp [intOf]; omega
        · have hqn : q = l.length := by omega
          have HST2 := Aside0.mk (HST.out.congr (c' := made l more l.length) (fun i _ => by rw [hqn]))
          clear hqn HST
          go_wp2_with fail
          (with_reducible refine (exact_with HST2.out HZ.out HML.out hll HS1.out HC1.out hcap (made_exact HCH.out HSN.out hml)).mono ?_)
          rintro e w7 ⟨v7, rfl, HO7, hb7⟩
          obtain ⟨A7, c7, rfl, h7c, _⟩ := Kd.R_reads HO7
          have HST3 := Aside0.mk (HST2.out.step hb7)
          clear HST2 HO7 hb7 h7c hk hkl
          have hk := HST3.out.HK
          have hkl := World.block_lt_of_cell? w7 _ hk
          by_cases n1 : n < 1
          · go_wp2_with fail
            go_ret
            exact ⟨rfl, HST3.out.HB⟩
          by_cases n2 : n > (l.length : Int)
          · go_wp2_with fail
            go_ret
            exact ⟨rfl, HST3.out.HB⟩
          obtain ⟨j, hj⟩ : ∃ j : Nat, n = (j : Int) + 1 := ⟨(n - 1).toNat, by omega⟩
          subst hj
          have hjl : j < l.length := by omega
          obtain ⟨x0, x1⟩ := HST3.out.RH.cells j hjl
          have hfz := HST3.out.RH.frozen (j * 5 + 1)
          by_cases hf0 : (rd_T36 l (j : Int)).f0 = 0
          · go_wp2_with fail
            go_ret
            exact ⟨rfl, HST3.out.HB⟩
          · have hf0' : ((rd_T36 l (j : Int)).f0 == 0) = false := by simpa using hf0
            have HJ := Aside0.mk (made_exact1 HCH.out HSN.out hml j hjl (by rw [← rd36 l j hjl]; exact hf0))
            have HST4 := Aside0.mk (HST3.out.put j hjl (wrap64 (made l more l.length j + 1)))
            go_wp2_with fail
            (with_reducible refine (exact_with HST4.out HZ.out HML.out hll HS1.out HC1.out hcap HJ.out).mono ?_)
            rintro e w8 ⟨v8, rfl, HO8, hb8⟩
            obtain ⟨A8, c8, rfl, h8c, _⟩ := Kd.R_reads HO8
            have HST5 := Aside0.mk (HST4.out.step hb8)
            have HC8 := Aside0.mk (Kd.R_reads' HO8).2.2
            have H8 := Aside0.mk h8c
            clear HST4 HST3 HO8 hb8 h8c hk hkl x0 x1 hfz HJ
            go_wp2_with fail
            have hr8 : Kd.C (Kd.int .i64) (w8.alloc (.cells #[.int .i64 ((j : Int) + 1)] 3)) (some ⟨w8.heap.size, 0, none⟩) [(j : Int) + 1].length [(j : Int) + 1] := by
              refine ⟨rfl, by simp, fun _ => ⟨_, rfl, fun i p hp => ?_⟩⟩
              match i, hp with
              | 0, hp =>
                obtain rfl := Option.some.inj hp
                refine ⟨[.int .i64 ((j : Int) + 1)], rfl, rfl, fun k u hu => ?_⟩
                match k, hu with
                | 0, hu =>
                  obtain rfl := Option.some.inj hu
                  exact (blk_cell (blk_new w8 _) 0).trans rfl
            have h21 := tallowlaw10_ints.calls 2 A8 c8 [(j : Int) + 1] (some ⟨w8.heap.size, 0, none⟩) 1 [(j : Int) + 1] true _ (Kd.C_alloc HC8.out _) H8.out hr8 (Nat.le_refl _) (ints_same [(j : Int) + 1] (by simp))
            refine h21.mono ?_
            rintro e w9 ⟨rfl, hb9⟩
            have HB9 : Below w.heap.size w w9 := below_step (below_alloc HST5.out.HB _) hb9.below
            go_wp2_with fail
            go_ret
            exact ⟨rfl, HB9⟩
    · have h0 : l = [] := List.length_eq_zero_iff.1 (by omega)
      subst h0
      have hlt3 := World.block_lt_of_cell? w3 _ hg3
      have hg4 : (w3.alloc (.cells #[.slice none 0 0] 24)).cell? ⟨w.heap.size, 0, none⟩ = some (.slice A0 0 c0) := (World.cell?_alloc_lt _ _ _ (by exact hlt3)).trans hg3
      go_wp2_with (at_builtin; refine append_none rfl (.tmp 25) (.tmp 27) rfl A0 c0 (by first | rfl | simp [Act.eval]) (by first | rfl | simp [Act.eval]) ?_)
      (with_reducible refine (refs_any 0 A1 c1 more _ (Kd.C_below HS1.out (below_alloc HB3.out _)) HC1.out HML.out).mono ?_)
      rintro e w6 ⟨v6, rfl, HO6, hb6⟩
      obtain ⟨A6, c6, rfl, h6c, _⟩ := Kd.R_reads HO6
      have HB6 : Aside0 (Below w.heap.size w w6) := ⟨below_step (below_alloc HB3.out _) hb6⟩
      have hk := cell_below (b := w3.heap.size) (o := 0) (v := .slice none 0 0) hb6 (by go_simp)
      clear hb6 HO6 h6c hb hg4 hg3 hlt3
      generalize w3.heap.size = b at *
      go_wp2_with fail
      go_loopw [10] (fun i wr => i = .int .i64 0 ∧ wr = w6) (fun i _ => 0)
      case atStart => exact ⟨rfl, rfl⟩
      case round =>
        obtain ⟨rfl, rfl⟩ := hrel
        have hx0 : exactL [] more = [] := rfl
        go_wp2_with fail
        have hcall := exact_any none 0 [] A1 c1 more wr rfl HML.out (Kd.C_nil _ _) (Nat.le_refl _) (Kd.C_below HS1.out HB6.out) HC1.out
        rw [List.length_nil] at hcall
        (with_reducible refine hcall.mono ?_)
        clear hcall
        rintro e w7 ⟨v7, rfl, HO7, hb7⟩
        rw [hx0] at HO7
        obtain ⟨A7, c7, rfl, h7c, _⟩ := Kd.R_reads HO7
        have HB7 : Below w.heap.size w w7 := below_step HB6.out hb7
        have hk7 := cell_below hb7 hk
        clear HO7 hb7 h7c hk
        by_cases n1 : n < 1
        · go_wp2_with fail
          go_ret
          exact ⟨rfl, HB7⟩
        · have n2 : (0 : Int) < n := by omega
          go_wp2_with fail
          go_ret
          exact ⟨rfl, HB7⟩
  · have HCH : Aside0 (checkB l = false) := ⟨Bool.eq_false_iff.2 hch⟩
    have HX : Aside0 (exactL l more = []) := ⟨exact_none more (Bool.eq_false_iff.2 hch)⟩
    clear hch
    go_enter Try.func7, Try.ntmps7
    go_wp2_with fail
    (with_reducible refine (tallowlaw10_works.calls true _ rfl).mono ?_)
    rintro e w1 ⟨rfl, hb⟩
    have HB : Aside0 (Below w.heap.size w w1) := Aside0.mk (below_step (below_alloc (Below.refl _ _) _) hb)
    have hg : w1.cell? ⟨w.heap.size, 0, none⟩ = some (.slice A0 l.length c0) := (hb.cell (p := ⟨w.heap.size, 0, none⟩) (by simp)).trans (by go_simp)
    clear hb
    go_wp2_with fail
    (with_reducible refine (check_any A0 c0 l _ false HCH.out (Kd.C_below HS.out HB.out) HC.out).mono ?_)
    rintro e w2 ⟨rfl, hb⟩
    have HB2 : Aside0 (Below w.heap.size w w2) := Aside0.mk (below_step HB.out hb)
    have hg2 := cell_below hb hg
    clear hb hg HB
    go_wp2_with fail
    (with_reducible refine (exact_any A0 c0 l A1 c1 more _ HZ.out HML.out (Kd.C_below HS.out HB2.out) HC.out (Kd.C_below HS1.out HB2.out) HC1.out).mono ?_)
    rintro e w3 ⟨v3, rfl, HO3, hb⟩
    have HB3 : Aside0 (Below w.heap.size w w3) := Aside0.mk (below_step HB2.out hb)
    obtain ⟨A3, c3, rfl, h3c, _⟩ := Kd.R_reads HO3
    rw [HX.out] at *
    clear hb HO3 h3c
    go_wp2_with fail
    go_ret
    exact ⟨rfl, HB3.out⟩
def tallowlaw10_GraphRight.f (k : Nat) (l0_0 : List (S36)) (l1 : List (S40)) (a2 : Int) : Option (Bool) := if sizesB l0_0 = true ∧ slotsN l0_0 ≤ 2097152 ∧ l0_0.length ≤ 2097152 ∧ l1.length ≤ 2097152 ∧ (Lit.int .i64 a2).wf = true then some true else none
theorem tallowlaw10_GraphRight.calls (k : Nat) (A0_0 : Option Addr) (c0_0 : Nat) (l0_0 : List (S36)) (A1 : Option Addr) (c1 : Nat) (l1 : List (S40)) (a2 : Int) (r : Bool) (w : World) (hr0_0 : Kd.C k36 w A0_0 l0_0.length l0_0) (hc0_0 : l0_0.length ≤ c0_0) (hr1 : Kd.C k40 w A1 l1.length l1) (hc1 : l1.length ≤ c1) (h : tallowlaw10_GraphRight.f k l0_0 l1 a2 = some r) :
    Calls Try.prog 7 #[.agg #[.slice A0_0 l0_0.length c0_0], .slice A1 l1.length c1, .int .i64 a2] w fun e w' => e = .returned (.bool r) ∧ Below w.heap.size w w' := by
  unfold tallowlaw10_GraphRight.f at h
  by_cases hz : sizesB l0_0 = true ∧ slotsN l0_0 ≤ 2097152 ∧ l0_0.length ≤ 2097152 ∧ l1.length ≤ 2097152 ∧ (Lit.int .i64 a2).wf = true
  · rw [if_pos hz] at h
    obtain rfl := Option.some.inj h
    exact right_any A0_0 c0_0 l0_0 A1 c1 l1 a2 w hz.1 hz.2.1 hz.2.2.1 hz.2.2.2.1 hz.2.2.2.2 hr0_0 hc0_0 hr1 hc1
  · rw [if_neg hz] at h
    cases h
theorem sum_ge {α : Type} (m : α → Nat) (h : ∀ x, 1 ≤ m x) : ∀ l : List α, l.length ≤ (l.map m).sum
  | [] => by simp
  | x :: l => by have := h x; have := sum_ge m h l; simp; omega
theorem sum_le {α : Type} (m m' : α → Nat) (h : ∀ x, m x ≤ m' x) : ∀ l : List α, (l.map m).sum ≤ (l.map m').sum
  | [] => by simp
  | x :: l => by have := h x; have := sum_le m m' h l; simp; omega
theorem right_all (l : List S36) (more : List S40) (n : Int) (ok : l.length * 64 ≤ 140737488351232 ∧ ∀ x ∈ l, OkObj x) {q : Prop} (_ : q) (hn : (Lit.int .i64 n).wf = true)
    (hb : ((l.map fun y1 => ((1 + (1 + (((y1.f2.map fun y2 => ((1 + 1) + 1)).sum + 1) + ((y1.f3.size + 1) + 1)))) + 1)).sum + 1 + 1) + (((more.map fun y3 => ((1 + 1) + 1)).sum + 1) + 1) ≤ 1048576) : ∃ k, tallowlaw10_GraphRight.f k l more n = some true := by
  have h1 := sum_ge (fun y1 : S36 => ((1 + (1 + (((y1.f2.map fun y2 => ((1 + 1) + 1)).sum + 1) + ((y1.f3.size + 1) + 1)))) + 1)) (fun _ => by omega) l
  have h2 := sum_ge (fun y3 : S40 => ((1 + 1) + 1)) (fun _ => by omega) more
  have h3 : slotsN l ≤ (l.map fun y1 => ((1 + (1 + (((y1.f2.map fun y2 => ((1 + 1) + 1)).sum + 1) + ((y1.f3.size + 1) + 1)))) + 1)).sum := by
    refine sum_le _ _ (fun x => ?_) l
    have := sum_ge (fun _ : S40 => ((1 + 1) + 1)) (fun _ => by omega) x.f2
    omega
  refine ⟨0, if_pos ⟨sizes_ok ok, by omega, by omega, by omega, hn⟩⟩
end Go.Proofs.Ytlpieciihlgdiaa.G
