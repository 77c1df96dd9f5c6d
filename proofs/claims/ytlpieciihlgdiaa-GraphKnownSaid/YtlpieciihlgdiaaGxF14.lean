-- written by a program of this session (handprint.sh), over functions proved by hand
import Derived.Test.YtlpieciihlgdiaaGx0
import Derived.Test.YtlpieciihlgdiaaGxF9
import Derived.Test.YtlpieciihlgdiaaGxF20
namespace Go.Proofs.Ytlpieciihlgdiaa.G
open Go.RowKit Go.Proofs.YtlpieciihlgdiaaW.PrintWords Go.Proofs.YtlpieciihlgdiaaW.PrintLast Go.Proofs.YtlpieciihlgdiaaW.PrintMore
attribute [local go_sem] max2_int min2_int max_two min_two max_three min_three max_four min_four   -- for this text's walks alone
-- shrunk
set_option linter.unusedVariables false
set_option linter.unusedSimpArgs false
/-! ### graph_Into: function 14 -/
/-- the entries are at whole numbers from 1 to the greatest object's number; and what each key has -/
def Good (D : DataW Unit) (f : Int → Int) : Prop := ∃ es, D = .map es ∧ (∀ p ∈ es, ∃ x : Int, p.1 = .int .i64 x ∧ 1 ≤ x ∧ x ≤ 2147483647) ∧ (∀ x : Int, D.atKey (.int .i64 x) (.lit (.int .i64 0)) = .lit (.int .i64 (f x)))
/-- a map of whole numbers that the call made: what each key has there -/
def Counts (w : World) (b : Nat) (f : Int → Int) : Prop := ∃ D : DataW Unit, w.ownsMap Try.prog 3 (plainElem Try.prog 3) b (Maps.size D) D ∧ Good D f
theorem few : ∀ (M : Nat) (l : List Nat), l.Pairwise (· ≠ ·) → (∀ x ∈ l, x < M) → l.length ≤ M
 | 0, [], _, _ => Nat.le_refl _
 | 0, x :: l, _, h => absurd (h x (by simp)) (by omega)
 | M + 1, l, hp, h => by
  have h1 := few M (l.filter fun x => x != M) (hp.filter _) (fun x hx => by
   have := List.mem_filter.1 hx
   have h2 := h x this.1
   have h3 : x ≠ M := by simpa using this.2
   omega)
  have h2 : l.length ≤ (l.filter fun x => x != M).length + 1 := by
   clear h1 h
   induction l with
   | nil => simp
   | cons y l ih =>
    rcases List.pairwise_cons.1 hp with ⟨hy, hl⟩
    by_cases e : y = M
    ·have h5 : (l.filter fun x => x != M) = l := List.filter_eq_self.2 (fun z hz => by
      have := hy z hz
      rw [bne_iff_ne]; omega)
     have h6 : (y != M) = false := by simpa using e
     rw [List.filter_cons, h6, if_neg (by decide), h5]; simp
    ·have h6 : (y != M) = true := by simpa using e
     have := ih hl
     rw [List.filter_cons, h6, if_pos rfl]; simp only [List.length_cons]; omega
  omega
theorem Good.size {D : DataW Unit} {f : Int → Int} (h : Good D f) (ht : Maps.Tidy D) : Maps.size D ≤ 2147483648 := by
 obtain ⟨es, rfl, hk, _⟩ := h
 obtain ⟨es', e, hp⟩ := ht
 cases e
 show es.length ≤ _
 have h1 := few 2147483648 (es.map fun p => match p.1 with | .int _ x => x.toNat | _ => 0) (by
  rw [List.pairwise_map]
  refine hp.imp_of_mem ?_
  intro p q hpm hqm hne
  obtain ⟨x, hx, h1, _⟩ := hk p hpm
  obtain ⟨y, hy, h2, _⟩ := hk q hqm
  rw [hx, hy] at hne ⊢
  intro e
  have e' : x.toNat = y.toNat := e
  exact hne (by rw [show x = y by omega])) (by
  intro z hz
  obtain ⟨p, hpm, rfl⟩ := List.mem_map.1 hz
  obtain ⟨x, hx, h1, h2⟩ := hk p hpm
  rw [hx]
  show x.toNat < _
  omega)
 simpa using h1
theorem mem_insert {x p : Lit × DataW Unit} : ∀ {l : List (Lit × DataW Unit)}, p ∈ DataW.insert x l → p = x ∨ p ∈ l
 | [], h => .inl (by simpa [DataW.insert] using h)
 | y :: l, h => by
  unfold DataW.insert at h
  split at h
  ·rcases List.mem_cons.1 h with h | h
   ·exact .inl h
   ·exact .inr h
  ·rcases List.mem_cons.1 h with h | h
   ·exact .inr (by rw [h]; simp)
   ·rcases mem_insert h with h | h
    ·exact .inl h
    ·exact .inr (List.mem_cons_of_mem _ h)
theorem Good.put {D : DataW Unit} {f : Int → Int} (h : Good D f) {x v : Int} (h1 : 1 ≤ x) (h2 : x ≤ 2147483647) : Good (D.put (.int .i64 x) (.lit (.int .i64 v))) (fun y => if y = x then v else f y) := by
 obtain ⟨es, rfl, hk, ha⟩ := h
 refine ⟨_, rfl, fun p hp => ?_, fun y => ?_⟩
 ·rcases mem_insert hp with rfl | hp
  ·exact ⟨x, rfl, h1, h2⟩
  ·exact hk p (List.mem_filter.1 hp).1
 ·by_cases e : y = x
  ·subst e
   show _ = DataW.lit (Lit.int .i64 (if y = y then v else f y))
   rw [if_pos rfl]
   exact Maps.atKey_put_same ⟨es, rfl⟩ (show WideAt.IsKeyLit (.int .i64 y) from trivial) _ _
  ·show _ = DataW.lit (Lit.int .i64 (if y = x then v else f y))
   rw [if_neg e, Maps.atKey_put_other (by intro h; injection h with _ h; exact e h)]
   exact ha y
theorem exact_size {w : World} {b n : Nat} {D : DataW Unit} (h : w.ownsMap Try.prog 3 (plainElem Try.prog 3) b n D) : w.ownsMap Try.prog 3 (plainElem Try.prog 3) b (Maps.size D) D := by
 obtain ⟨es, clock, h1, h2, _, rfl⟩ := h
 exact ⟨es, clock, h1, h2, by simp [Maps.size, length_sorted], rfl⟩
theorem law3 : Maps.Keyed Try.prog 3 := Maps.int_keyed Try.underlying3
theorem zero3 (w : World) : (zeroValue 3).run Try.prog w = .ok (.int .i64 0) w := by kernel_rfl
theorem Counts.made (w : World) : Counts (w.alloc (.map #[] 0)) w.heap.size (fun _ => 0) := ⟨.map [], World.ownsMap_made _ _ _ _, [], rfl, by simp, fun _ => rfl⟩
theorem Counts.bound {w : World} {b : Nat} {f : Int → Int} (h : Counts w b f) : ∃ D : DataW Unit, w.ownsMap Try.prog 3 (plainElem Try.prog 3) b (Maps.size D) D ∧ Good D f ∧ Maps.size D ≤ 2147483648 := by
 obtain ⟨D, h1, h2⟩ := h
 exact ⟨D, h1, h2, h2.size (h1.tidy law3)⟩
theorem Counts.kept {w w' : World} {b : Nat} {f : Int → Int} {row : Option Nat} (h : Counts w b f) (hg : w.grownBy w' row) (hne : some b ≠ row) : Counts w' b f := by
 obtain ⟨D, h1, h2⟩ := h
 exact ⟨D, h1.kept hg hne, h2⟩
theorem Counts.below {w w' : World} {b : Nat} {f : Int → Int} (h : Counts w b f) (hb : Below w.heap.size w w') : Counts w' b f := h.kept (grown_of_below hb none) (by simp)
theorem Counts.lt {w : World} {b : Nat} {f : Int → Int} (h : Counts w b f) : b < w.heap.size := by
 obtain ⟨D, h1, _⟩ := h
 exact h1.lt
theorem Counts.cell {w : World} {b : Nat} {f : Int → Int} (h : Counts w b f) {a : Addr} (ha : b ≠ a.block) (u : Value) : Counts (w.setCell a u) b f := by
 obtain ⟨D, h1, h2⟩ := h
 exact ⟨D, h1.setCell ha u, h2⟩
/-- 'm[x]' -/
theorem Counts.lookup {w : World} {b : Nat} {f : Int → Int} (h : Counts w b f) {ops : Array Oper} {rest : List Oper} {o : Oper} {a : Act} {Q : Exit → Act → World → Prop} (hg : o.guard = none) (m x : Operand) (hop : o.op = Op.lookup 46 m x false) (hm : a.eval m = .map (some b)) (n : Int) (hx : a.eval x = .int .i64 n) (hn : (Lit.int .i64 n).wf = true)
  (hK : (Lit.int .i64 (f n)).wf = true → wpList Try.prog ops Q rest (a.put o.dst (.int .i64 (f n))) w) : wpList Try.prog ops Q (o :: rest) a w := by
 obtain ⟨D, h1, es, hD, hk, ha⟩ := h
 refine wpList_lookup_own_int w hg m x 46 hop 3 3 .i64 law3 Try.underlying46 Try.underlying3 (zero3 w) b _ D hm h1 _ _ hx (Maps.keyOf_int_mk Try.underlying3 hn) ?_
 intro c hat hwc
 rw [ha n] at hat
 have : f n = c := by injection hat with hat; injection hat
 subst this
 exact hK hwc
/-- 'm[x] = v' -/
theorem Counts.update {w : World} {b : Nat} {f : Int → Int} (h : Counts w b f) {ops : Array Oper} {rest : List Oper} {o : Oper} {a : Act} {Q : Exit → Act → World → Prop} (hg : o.guard = none) (m x v : Operand) (hop : o.op = Op.mapUpdate 46 m x v) (hm : a.eval m = .map (some b)) (n : Int) (hx : a.eval x = .int .i64 n) (h1 : 1 ≤ n) (h2 : n ≤ 2147483647)
  (c : Int) (hv : a.eval v = .int .i64 c) (hc : (Lit.int .i64 c).wf = true)
  (hK : ∀ w', Counts w' b (fun y => if y = n then c else f y) → w.grownBy w' (some b) → wpList Try.prog ops Q rest (a.put o.dst undef) w') : wpList Try.prog ops Q (o :: rest) a w := by
 obtain ⟨D, hown, hgood, hsz⟩ := h.bound
 have hn : (Lit.int .i64 n).wf = true := WalkArith.wf_i64 (by omega)
 refine wpList_mapUpdate_own w hg m x v 46 hop 3 3 law3 Try.underlying46 _ b _ D hm hown (by unfold maxLen; omega) _ _ _ hx hv (Maps.keyOf_int_mk Try.underlying3 hn) _ [] (plainElem_int Try.underlying3 hc) ?_
 intro w' hown' hg'
 exact hK w' ⟨_, exact_size hown', hgood.put h1 h2⟩ hg'
/-- the objects of a list -/
def refsL (l : List S40) : List Int := (l.filter fun x => refB x.f0 x.f1).map (·.f1)
theorem refsL_yes {x : S40} {l : List S40} (h : refB x.f0 x.f1 = true) : refsL (x :: l) = x.f1 :: refsL l := by simp [refsL, h]
theorem refsL_no {x : S40} {l : List S40} (h : refB x.f0 x.f1 = false) : refsL (x :: l) = refsL l := by simp [refsL, h]
theorem refsL_le (l : List S40) : (refsL l).length ≤ l.length := by
 unfold refsL; rw [List.length_map]; exact List.length_filter_le _ _
theorem refsL_in {l : List S40} {n : Int} (h : n ∈ refsL l) : 1 ≤ n ∧ n ≤ 2147483647 := by
 obtain ⟨x, hx, rfl⟩ := List.mem_map.1 h
 have h2 := (List.mem_filter.1 hx).2
 unfold refB at h2
 simp only [Bool.and_eq_true, decide_eq_true_eq] at h2
 exact may_ref h2.2 h2.1
theorem rd40 (l : List S40) (i : Nat) (h : i < l.length) : rd_T40 l i = l[i] := by
 unfold rd_T40; rw [List.getD_eq_getElem?_getD]; simp [h]
theorem vrefs_from (l : List S40) (hl : l.length ≤ 8796093022208) (d : Nat) : ∀ (k i : Nat) (acc : List Int), l.length - i = d → i ≤ l.length → d < k → acc.length ≤ i →
  val_Refs.l0 k acc l l.length i = some (acc ++ refsL (l.drop i)) := by
 induction d with
 | zero =>
  intro k i acc hd hi hk ha
  obtain ⟨k, rfl⟩ : ∃ m, k = m + 1 := ⟨k - 1, by omega⟩
  have hii : i = l.length := by omega
  subst hii
  rw [val_Refs.l0, if_neg (by omega)]
  simp [refsL]
 | succ d ih =>
  intro k i acc hd hi hk ha
  obtain ⟨k, rfl⟩ : ∃ m, k = m + 1 := ⟨k - 1, by omega⟩
  have hlt : i < l.length := by omega
  have hdr : l.drop i = l[i] :: l.drop (i + 1) := List.drop_eq_getElem_cons hlt
  rw [val_Refs.l0, if_pos (by omega), if_pos (by omega), if_pos (by omega), vref, rd40 l i hlt, w64 (by omega) (by omega), Option.bind_some]
  have hc : ((i : Int) + 1) = ((i + 1 : Nat) : Int) := by omega
  rw [hc, hdr]
  cases hr : refB l[i].f0 l[i].f1
  ·rw [if_neg (by decide), ih k (i + 1) acc (by omega) (by omega) (by omega) (by omega), refsL_no hr]
  ·rw [if_pos rfl, if_pos (by omega), ih k (i + 1) _ (by omega) (by omega) (by omega) (by simp; omega), refsL_yes hr]
   simp
theorem vrefs (l : List S40) (hl : l.length ≤ 8796093022208) (k : Nat) (hk : l.length < k) : val_Refs.f k l = some (refsL l) := by
 unfold val_Refs.f
 have := vrefs_from l hl l.length k 0 [] (by omega) (by omega) hk (by simp)
 simpa using this
def allRefs (l : List S36) : List Int := l.flatMap fun o => refsL o.f2
/-- how often a number stands in a list -/
def cnt (xs : List Int) (x : Int) : Int := wrap64 (xs.count x : Int)
theorem cnt_nil : cnt [] = fun _ => 0 := by funext x; simp [cnt, wrap64]
theorem cnt_step (xs : List Int) (y : Int) : cnt (xs ++ [y]) = fun x => if x = y then wrap64 (cnt xs y + 1) else cnt xs x := by
 funext x
 unfold cnt
 by_cases e : x = y
 ·subst e
  rw [if_pos rfl, List.count_append]
  simp only [List.count_singleton_self]
  unfold wrap64; omega
 ·rw [if_neg e, List.count_append]
  have : [y].count x = 0 := List.count_eq_zero.2 (by simpa using e)
  rw [this]; simp
theorem cnt_wf (xs : List Int) (x : Int) : (Lit.int .i64 (cnt xs x)).wf = true := wrap64_wf _
theorem allRefs_step (l : List S36) (k : Nat) (h : k < l.length) : allRefs (l.take (k + 1)) = allRefs (l.take k) ++ refsL l[k].f2 := by
 unfold allRefs; rw [List.take_succ_eq_append_getElem h, List.flatMap_append, List.flatMap_cons, List.flatMap_nil, List.append_nil]
/-- a row of ints that is read, place by place -/
theorem ints_at {w : World} {A : Option Addr} {n : Nat} {xs : List Int} (h : Kd.C (Kd.int .i64) w A n xs) (k : Nat) (hk : k < n) : ∃ ad, A = some ad ∧ w.cell? (ad.add k) = some (.int .i64 (xs.getD k 0)) := by
 obtain ⟨ad, c, e, _, hK, hc0⟩ := Kd.C_get h 0 (k : Int) (by omega) (by omega)
 have hk' : c = [.int .i64 (xs.getD k 0)] := hK
 subst hk'
 refine ⟨ad, e, ?_⟩
 have := hc0 0 _ rfl
 have hs : (Kd.int .i64).sz = 1 := rfl
 rw [hs, Int.toNat_natCast] at this
 simpa using this
theorem cell_grown {w w' : World} {row : Option Nat} (hg : w.grownBy w' row) {b o : Nat} {v : Value} (h : w.cell? ⟨b, o, none⟩ = some v) (hne : some b ≠ row) : w'.cell? ⟨b, o, none⟩ = some v :=
 (World.cell?_of_block (a := ⟨b, o, none⟩) (w := w) (hg.block b (World.block_lt_of_cell? w _ h) hne)).trans h
theorem below_grown {w wi w' : World} {B : Nat} (h : Below w.heap.size w wi) (hg : wi.grownBy w' (some B)) (hB : w.heap.size < B) : Below w.heap.size w w' :=
 h.grown hg h.size (fun k hk => by injection hk; omega)
def part (n : Nat) (f : Nat → Int) (k : Nat) : List Int := (List.range n).map fun i => if i < k then f i else 0
theorem part_len (n : Nat) (f : Nat → Int) (k : Nat) : (part n f k).length = n := by simp [part]
theorem part_zero (n : Nat) (f : Nat → Int) : part n f 0 = List.replicate n 0 := by
 apply List.ext_getElem <;> simp [part]
theorem part_all (n : Nat) (f : Nat → Int) : part n f n = (List.range n).map f := by
 apply List.ext_getElem
 ·simp [part]
 ·intro i h1 h2
  have : i < n := by simpa [part] using h1
  simp [part, this]
theorem part_set (n : Nat) (f : Nat → Int) (k : Nat) : (part n f k).set k (f k) = part n f (k + 1) := by
 apply List.ext_getElem
 ·simp [part]
 ·intro i h1 h2
  have h3 : i < n := by simpa [part] using h2
  rw [List.getElem_set]
  by_cases e : k = i
  ·subst e; simp [part]
  ·rw [if_neg e]
   simp only [part, List.getElem_map, List.getElem_range]
   by_cases h : i < k
   ·rw [if_pos h, if_pos (by omega)]
   ·rw [if_neg h, if_neg (by omega)]
theorem Counts.run {w : World} {b : Nat} {f : Int → Int} (h : Counts w b f) (n : Int) (hn : (Lit.int .i64 n).wf = true) : Sem.run Try.prog (Instr.lookup 46 (.map (some b)) (.int .i64 n) false) w = .ok (.int .i64 (f n)) w := by
 obtain ⟨D, h1, es, hD, hk, ha⟩ := h
 obtain ⟨c, hrun, hat, _⟩ := h1.lookup_int law3 Try.underlying46 Try.underlying3 (zero3 w) (Maps.keyOf_int_mk Try.underlying3 hn)
 rw [ha n] at hat
 have : f n = c := by injection hat with hat; injection hat
 rw [this]; exact hrun
def sizesB (l0 : List S36) : Bool := decide (l0.length ≤ 2199023255552) && l0.all fun o => decide (o.f2.length ≤ 8796093022208)
theorem sizes_at {l0 : List S36} (h : sizesB l0 = true) : l0.length ≤ 2199023255552 ∧ ∀ (k : Nat) (hk : k < l0.length), l0[k].f2.length ≤ 8796093022208 := by
 unfold sizesB at h
 simp only [Bool.and_eq_true, decide_eq_true_eq, List.all_eq_true] at h
 exact ⟨h.1, fun k hk => h.2 _ (List.getElem_mem hk)⟩
def intoL (l0 : List S36) : List Int := if checkB l0 = true then (List.range l0.length).map fun (i : Nat) => cnt (allRefs l0) ((i : Int) + 1) else []
/-- slots' row of ints, as it is handed back -/
def RowOut (r : List Int) (w : World) (e : Ending) (w' : World) : Prop := ∃ v0_ : Value, e = .returned (v0_) ∧ Kd.R (Kd.int .i64) 3 w' w.heap.size (fun _ => True) v0_ r ∧ Below w.heap.size w w'
theorem refs_any (k : Nat) (A : Option Addr) (c : Nat) (l : List S40) (w : World) (hs : Kd.C k40 w A l.length l) (hc : l.length ≤ c) (hl : l.length ≤ 8796093022208) :
  Calls Try.prog 20 #[.slice A l.length c] w fun e w' => RowOut (refsL l) w e w' :=
 val_Refs.calls (l.length + 1) A c l (refsL l) w hs hc (vrefs l hl _ (by omega))
set_option maxHeartbeats 4000000 in
set_option maxRecDepth 100000 in
theorem into_any (A0 : Option Addr) (c0 : Nat) (l0 : List S36) (w : World) (hz : sizesB l0 = true) (hr : Kd.C k36 w A0 l0.length l0) (hc : l0.length ≤ c0) :
  Calls Try.prog 14 #[.agg #[.slice A0 l0.length c0]] w fun e w' => RowOut (intoL l0) w e w' := by
 have HS := Aside0.mk hr
 have HC := Aside0.mk hc
 obtain ⟨z1, z2⟩ := sizes_at hz
 have Z2 := Aside0.mk z2
 clear hz hr hc z2
 by_cases hch : checkB l0 = true
 ·have HI : Aside0 (intoL l0 = (List.range l0.length).map fun (i : Nat) => cnt (allRefs l0) ((i : Int) + 1)) := ⟨by unfold intoL; rw [if_pos hch]⟩
  have HCH := Aside0.mk hch
  clear hch
  have hmm := @run_makeMap Try.prog
  go_enter Try.func14, Try.ntmps14
  go_wp2_with fail
  (with_reducible refine (check_any A0 c0 l0 _ true HCH.out (Kd.C_alloc HS.out _) HC.out).mono ?_)
  rintro e w1 ⟨rfl, hb⟩
  have HB : Aside0 (Below w.heap.size w w1) := Aside0.mk (below_step (below_alloc (Below.refl _ _) _) hb)
  have hg : w1.cell? ⟨w.heap.size, 0, none⟩ = some (.slice A0 l0.length c0) := (hb.cell (p := ⟨w.heap.size, 0, none⟩) (by simp)).trans (by go_simp)
  have hg2 : w.heap.size < w1.heap.size := by have := hb.size; simp at this; omega
  clear hb
  go_wp2_with fail
  have hw1 : w.heap.size ≤ w1.heap.size := by omega
  obtain ⟨B, hB⟩ : ∃ B, B = w1.heap.size := ⟨_, rfl⟩
  have HM : Aside0 (Counts (w1.alloc (.map #[] 0)) B (cnt (allRefs (l0.take 0)))) := ⟨by
   have h0 : allRefs (l0.take 0) = [] := by simp [allRefs]
   rw [h0, cnt_nil, hB]
   exact Counts.made w1⟩
  replace HB := Aside0.mk (below_alloc HB.out (.map #[] 0))
  have HG : Aside0 ((w1.alloc (.map #[] 0)).cell? ⟨w.heap.size, 0, none⟩ = some (.slice A0 l0.length c0)) := ⟨by rw [World.cell?_alloc_lt _ _ _ (by exact hg2)]; exact hg⟩
  rw [← hB]
  clear hg
  have hB2 : w.heap.size < B := by omega
  generalize w1.alloc (.map #[] 0) = w2 at *
  clear hB hw1 hg2
  go_loopw [17] (fun i wr => ∃ k : Nat, k ≤ l0.length ∧ i = .int .i64 k ∧ Aside0 (Counts wr B (cnt (allRefs (l0.take k)))) ∧ Aside0 (wr.cell? ⟨w.heap.size, 0, none⟩ = some (.slice A0 l0.length c0)) ∧ Aside0 (Below w.heap.size w wr)) (fun i _ => l0.length - (intOf i).toNat)
  case atStart => exact ⟨0, Nat.zero_le _, rfl, HM, HG, HB⟩
  case round =>
   clear HM HG HB
   obtain ⟨k, hk, rfl, HM, HG, HB⟩ := hrel
   by_cases hlt : k < l0.length
   ·have p1 : (0 : Int) ≤ (k : Int) := by omega
    have q1 : (k : Int) < (l0.length : Int) := by omega
    obtain ⟨ad, A2, c2, e, x0, x1, x2, x3, x4, hl2, hi2⟩ := at_T36 HS.out (k : Int) p1 q1
    rw [Int.toNat_natCast] at x0 x1 x2 x3 x4
    replace x0 := (HB.out.cell (World.block_lt_of_cell? w _ x0)).trans x0
    replace x1 := (HB.out.cell (World.block_lt_of_cell? w _ x1)).trans x1
    replace x2 := (HB.out.cell (World.block_lt_of_cell? w _ x2)).trans x2
    replace x3 := (HB.out.cell (World.block_lt_of_cell? w _ x3)).trans x3
    replace x4 := (HB.out.cell (World.block_lt_of_cell? w _ x4)).trans x4
    have hrd : rd_T36 l0 (k : Int) = l0[k] := by unfold rd_T36; simp [hlt]
    have HZ : Aside0 ((rd_T36 l0 (k : Int)).f2.length ≤ 8796093022208) := ⟨by rw [hrd]; exact Z2.out k hlt⟩
    have HN : Aside0 (allRefs (l0.take (k + 1)) = allRefs (l0.take k) ++ refsL (rd_T36 l0 (k : Int)).f2) := ⟨by rw [hrd]; exact allRefs_step l0 k hlt⟩
    have HI2 := Aside0.mk (Kd.C_below hi2 HB.out)
    have HL2 := Aside0.mk hl2
    clear hl2 hi2 hrd
    generalize rd_T36 l0 (k : Int) = x at *
    cases e
    go_wp2_with fail
    (with_reducible refine (refs_any 0 A2 c2 x.f2 _ (Kd.C_alloc HI2.out _) HL2.out HZ.out).mono ?_)
    rintro e w3 ⟨v, rfl, HO0, hb⟩
    have HB3 : Aside0 (Below w.heap.size w w3) := Aside0.mk (below_step (below_alloc HB.out _) hb)
    have HM3 : Aside0 (Counts w3 B (cnt (allRefs (l0.take k) ++ (refsL x.f2).take 0))) := ⟨by
     rw [List.take_zero, List.append_nil]
     exact (HM.out.kept (World.grownBy_alloc wr _ none) (by simp)).below hb⟩
    have HG3 : Aside0 (w3.cell? ⟨w.heap.size, 0, none⟩ = some (.slice (some ad) l0.length c0)) := ⟨(hb.cell (p := ⟨w.heap.size, 0, none⟩) (by have := World.block_lt_of_cell? wr _ HG.out; simp at this ⊢; omega)).trans ((World.cell?_alloc_lt _ _ _ (by exact World.block_lt_of_cell? wr _ HG.out)).trans HG.out)⟩
    have hBlt := HM.out.lt
    obtain ⟨base, hbase⟩ : ∃ base, base = (wr.alloc (.cells #[.int .i64 x.f0, .int .i64 x.f1, .slice A2 x.f2.length c2, .string x.f3, .int .i64 x.f4] 36)).heap.size := ⟨_, rfl⟩
    have hbB : B < base := by rw [hbase]; simp; omega
    rw [← hbase] at HO0
    have HO : Aside0 (Kd.R (Kd.int .i64) 3 w3 base (fun k => k ≠ B) v (refsL x.f2)) := ⟨Kd.R_mono (Kd.R_bound HO0) (fun k hk => by have := hk.2.1; omega)⟩
    obtain ⟨A3, c3, rfl, h3c, _⟩ := Kd.R_reads HO0
    have HZr : Aside0 ((refsL x.f2).length ≤ 8796093022208) := ⟨Nat.le_trans (refsL_le _) HZ.out⟩
    clear HO0 hb hbase hbB hBlt HB HM HG x0 x1 x2 x3 x4
    obtain ⟨n3, hn3⟩ : ∃ n, n = (refsL x.f2).length := ⟨_, rfl⟩
    have hz3 : n3 ≤ 8796093022208 := by rw [hn3]; exact HZr.out
    have HN3 := Aside0.mk hn3
    rw [← hn3] at HO h3c ⊢
    clear hn3 h3c HZr
    go_wp2_with fail
    go_loopw [25] (fun j wi => ∃ m : Nat, m ≤ n3 ∧ j = .int .i64 m ∧ Aside0 (Counts wi B (cnt (allRefs (l0.take k) ++ (refsL x.f2).take m))) ∧ Aside0 (Kd.R (Kd.int .i64) 3 wi base (fun k => k ≠ B) (.slice A3 n3 c3) (refsL x.f2)) ∧ Aside0 (wi.cell? ⟨w.heap.size, 0, none⟩ = some (.slice (some ad) l0.length c0)) ∧ Aside0 (Below w.heap.size w wi)) (fun j _ => n3 - (intOf j).toNat)
    case atStart => exact ⟨0, Nat.zero_le _, rfl, HM3, HO, HG3, HB3⟩
    case round =>
     clear HM3 HO HG3 HB3
     obtain ⟨m, hm, rfl, HM, HO, HG, HB⟩ := hrel
     by_cases hmt : m < n3
     ·have hC := (Kd.R_reads' HO.out).2.2
      rw [← HN3.out] at hC
      obtain ⟨ad3, e, y0⟩ := ints_at hC m hmt
      cases e
      have hgl : (refsL x.f2)[m]? = some ((refsL x.f2).getD m 0) := by
       rw [List.getD_eq_getElem?_getD, List.getElem?_eq_getElem (by rw [← HN3.out]; exact hmt)]; rfl
      have hin := refsL_in (List.mem_of_getElem? hgl)
      have HT : Aside0 ((refsL x.f2).take (m + 1) = (refsL x.f2).take m ++ [(refsL x.f2).getD m 0]) := ⟨by
       rw [List.take_add_one, hgl]; rfl⟩
      clear hC hgl
      generalize (refsL x.f2).getD m 0 = n at *
      have hwf : Aside0 ((Lit.int .i64 n).wf = true) := ⟨WalkArith.wf_i64 (by omega)⟩
      have hi1 := Aside0.mk hin.1
      have hi2 := Aside0.mk hin.2
      clear hin
      go_wp2_with (first
       | (at_lookup; refine Counts.lookup HM.out rfl _ _ rfl rfl n rfl hwf.out ?_; intro hwc)
       | (at_mapUpdate; refine Counts.update HM.out rfl _ _ _ rfl rfl n rfl hi1.out hi2.out _ rfl (wrap64_wf _) ?_; intro w5 hM5 hg5))
      replace hM5 : Counts w5 B (cnt (allRefs (l0.take k) ++ (refsL x.f2).take (m + 1))) := by
       rw [HT.out, ← List.append_assoc, cnt_step]
       exact hM5
      have HM5 := Aside0.mk hM5
      have HO5 := Aside0.mk (Kd.R_grown HO.out hg5 (fun k hk => by intro e; injection e with e; exact hk e))
      have HG5 := Aside0.mk (cell_grown hg5 HG.out (fun e => by have := Option.some.inj e; omega))
      have HB5 := Aside0.mk (below_grown HB.out hg5 hB2)
      clear hM5 hg5
      go_roundw
      case rel => exact ⟨m + 1, by omega, by go_num, HM5, HO5, HG5, HB5⟩
      case measure => simp [intOf]; omega
     ·have hmn : m = n3 := by omega
      have HM6 : Aside0 (Counts wr B (cnt (allRefs (l0.take (k + 1))))) := ⟨by
       have h1 := HM.out
       rw [hmn, HN3.out, List.take_length, ← HN.out] at h1
       exact h1⟩
      clear HM hmn
      go_wp2_with fail
      go_roundw
      case rel => exact ⟨k + 1, by omega, by go_num, HM6, HG, HB⟩
      case measure => simp [intOf]; omega
   ·have hk2 : k = l0.length := by omega
    have HM6 : Aside0 (Counts wr B (cnt (allRefs l0))) := ⟨by
     have h1 := HM.out
     rw [hk2, List.take_length] at h1
     exact h1⟩
    clear HM hk2
    have hg := HG.out
    have hz8 : ((l0.length : Int)).toNat * 8 ≤ 281474976710656 := by omega
    have hz0 : (0 : Int) ≤ (l0.length : Int) := by omega
    have Hz8 := Aside0.mk hz8
    have Hz0 := Aside0.mk hz0
    clear hz8 hz0
    have hBlt := HM6.out.lt
    by_cases hz : l0.length = 0
    ·have hr0 : Aside0 (intoL l0 = List.replicate l0.length 0) := ⟨by rw [HI.out, hz]; rfl⟩
     have hz' : Aside0 ((List.replicate l0.length (0 : Int)).length = 0) := ⟨by simp [hz]⟩
     clear hz
     go_wp2_with (refine Kd.R_make (Kd.int .i64) (w0 := w) w.heap.size 3 rfl (N := 38) rfl 29 _ _ rfl _ rfl rfl Try.underlying29 (.int .i64 0) 8 (by kernel_rfl) rfl (by decide) (by decide) (0 : Int) (ok := fun _ => True) (okp := fun _ => True) rfl (fun _ h => h) trivial Hz0.out Hz8.out HB.out HB.out.size ?_; intro v8 w8 HO8 hb8 hg8 hat8; clear hg8 hat8; rw [Int.toNat_natCast] at HO8; obtain ⟨A8, c8, rfl⟩ := Kd.R_slice HO8; replace HO8 := Aside0.mk HO8; rw [hz'.out] at HO8 ⊢; have HB8 := Aside0.mk hb8; clear hb8)
     go_loopw [41] (fun j wi => j = .int .i64 0 ∧ Aside0 (wi = w8)) (fun j _ => 0)
     case atStart => exact ⟨rfl, ⟨rfl⟩⟩
     case round =>
      obtain ⟨rfl, hw8⟩ := hrel
      go_wp2_with fail
      go_ret
      have := hw8.out
      subst this
      exact ⟨_, rfl, by rw [hr0.out]; exact HO8.out, HB8.out⟩
    ·have hp : Aside0 (0 < (List.replicate l0.length (0 : Int)).length) := ⟨by simp; omega⟩
     have hl8 : Aside0 ((List.replicate l0.length (0 : Int)).length = l0.length) := ⟨by simp⟩
     have HI2 : Aside0 (intoL l0 = part l0.length (fun i => cnt (allRefs l0) ((i : Int) + 1)) l0.length) := ⟨by rw [HI.out, part_all]⟩
     clear hz
     go_wp2_with (refine Kd.R_make (Kd.int .i64) (w0 := w) w.heap.size 3 rfl (N := 38) rfl 29 _ _ rfl _ rfl rfl Try.underlying29 (.int .i64 0) 8 (by kernel_rfl) rfl (by decide) (by decide) (0 : Int) (ok := fun _ => True) (okp := fun _ => True) rfl (fun _ h => h) trivial Hz0.out Hz8.out HB.out HB.out.size ?_; intro v8 w8 HO8 hb8 hg8 hat8; replace HM6 := Aside0.mk (HM6.out.kept hg8 (by simp)); clear hg8; rw [Int.toNat_natCast] at HO8; obtain ⟨g, cap, rfl, hwg, hgl, _⟩ := Kd.R_form HO8 hp.out; replace HO8 := Aside0.mk HO8; rw [hl8.out] at HO8 ⊢; have HB8 := Aside0.mk hb8; clear hb8)
     have hgB : g ≠ B := by
      obtain ⟨b8, hat, hb8'⟩ := hat8
      have : g = b8 := by simpa [Value.ownBlock] using hat
      omega
     have HO : Aside0 (Kd.R (Kd.int .i64) 3 w8 w.heap.size (fun _ => True) (.slice (some ⟨g, 0, none⟩) l0.length cap) (part l0.length (fun i => cnt (allRefs l0) ((i : Int) + 1)) 0)) := ⟨by
      rw [part_zero]; exact HO8.out⟩
     clear hat8 HO8 hl8 hp hBlt hgl
     go_loopw [41] (fun j wi => ∃ m : Nat, m ≤ l0.length ∧ j = .int .i64 m ∧ Aside0 (Counts wi B (cnt (allRefs l0))) ∧ Aside0 (Kd.R (Kd.int .i64) 3 wi w.heap.size (fun _ => True) (.slice (some ⟨g, 0, none⟩) l0.length cap) (part l0.length (fun i => cnt (allRefs l0) ((i : Int) + 1)) m)) ∧ Aside0 (Below w.heap.size w wi)) (fun j _ => l0.length - (intOf j).toNat)
     case atStart => exact ⟨0, Nat.zero_le _, rfl, HM6, HO, HB8⟩
     case round =>
      clear HM6 HO HB8
      obtain ⟨m, hm, rfl, HM, HO, HB⟩ := hrel
      by_cases hmt : m < l0.length
      ·obtain ⟨y0, y1⟩ := Kd.R_celln (0 : Int) HO.out (m : Int) (by omega) (by omega)
       rw [Int.toNat_natCast] at y0 y1
       have hwf : Aside0 ((Lit.int .i64 ((m : Int) + 1)).wf = true) := ⟨WalkArith.wf_i64 (by omega)⟩
       go_wp2_with (at_lookup; refine Counts.lookup HM.out rfl _ _ rfl rfl ((m : Int) + 1) rfl hwf.out ?_; intro hwc)
       have hM2 := Aside0.mk (HM.out.cell (a := ⟨g, m, none⟩) (Ne.symm hgB) (.int .i64 (cnt (allRefs l0) ((m : Int) + 1))))
       have hO2 : Aside0 (Kd.R (Kd.int .i64) 3 (wr.setCell ⟨g, m, none⟩ (.int .i64 (cnt (allRefs l0) ((m : Int) + 1)))) w.heap.size (fun _ => True) (.slice (some ⟨g, 0, none⟩) l0.length cap) (part l0.length (fun i => cnt (allRefs l0) ((i : Int) + 1)) (m + 1))) := ⟨by
        have h1 := Kd.R_putn HO.out (m : Int) (cnt (allRefs l0) ((m : Int) + 1))
        rw [Int.toNat_natCast, part_set _ (fun i => cnt (allRefs l0) ((i : Int) + 1)) m] at h1
        exact h1⟩
       have hB2' := Aside0.mk (HB.out.setCell (p := ⟨g, m, none⟩) hwg (.int .i64 (cnt (allRefs l0) ((m : Int) + 1))))
       go_roundw
       case rel => exact ⟨m + 1, by omega, by go_num, hM2, hO2, hB2'⟩
       case measure => simp [intOf]; omega
      ·have hmn : m = l0.length := by omega
       go_wp2_with fail
       go_ret
       rw [hmn] at HO
       exact ⟨_, rfl, by rw [HI2.out]; exact HO.out, HB.out⟩
 ·have HI : Aside0 (intoL l0 = []) := ⟨by unfold intoL; rw [if_neg hch]⟩
  have HCH : Aside0 (checkB l0 = false) := ⟨Bool.eq_false_iff.2 hch⟩
  clear hch
  go_enter Try.func14, Try.ntmps14
  go_wp2_with fail
  (with_reducible refine (check_any A0 c0 l0 _ false HCH.out (Kd.C_alloc HS.out _) HC.out).mono ?_)
  rintro e w1 ⟨rfl, hb⟩
  go_wp2_with fail
  go_ret
  exact ⟨_, rfl, by rw [HI.out]; exact Kd.R_nil _ _ _ _ _, below_step (below_alloc (Below.refl _ _) _) hb⟩
def graph_Into.f (l0_0 : List S36) : Option (List Int) := if sizesB l0_0 = true then some (intoL l0_0) else none
theorem graph_Into.calls (A0_0 : Option Addr) (c0_0 : Nat) (l0_0 : List (S36)) (r : List Int) (w : World) (hr0_0 : Kd.C k36 w A0_0 l0_0.length l0_0) (hc0_0 : l0_0.length ≤ c0_0) (h : graph_Into.f l0_0 = some r) :
  Calls Try.prog 14 #[.agg #[.slice A0_0 l0_0.length c0_0]] w fun e w' => ∃ v0_ : Value, e = .returned (v0_) ∧ Kd.R (Kd.int .i64) 3 w' w.heap.size (fun _ => True) v0_ r ∧ Below w.heap.size w w' := by
 unfold graph_Into.f at h
 by_cases hz : sizesB l0_0 = true
 ·rw [if_pos hz] at h
  obtain rfl := Option.some.inj h
  exact into_any A0_0 c0_0 l0_0 w hz hr0_0 hc0_0
 ·rw [if_neg hz] at h
  cases h
end Go.Proofs.Ytlpieciihlgdiaa.G
