import Derived.Deep.RegionLaw
import Derived.Outline
import Derived.Deep.Cut
import Derived.WalkSpells
import Derived.Shelf.Abstract
import Derived.Test.YtpdcedmnkkiekaaPMoCA
import Derived.Test.YtpdcedmnkkiekaaPMoGxF17
import Derived.Test.YtpdcedmnkkiekaaPMoGxF6
import Derived.Lib.Hide
set_option linter.unusedVariables false
set_option linter.unusedSimpArgs false
section
namespace Go.Proofs.Ytpdcedmnkkiekaa.G
open Go.Shelf Go.RowKit Go.Proofs.YtpdcedmnkkiekaaW.PrintWords Go.Proofs.YtpdcedmnkkiekaaW.PrintLast Go.Proofs.YtpdcedmnkkiekaaW.PrintMore
set_option linter.unusedVariables false
set_option linter.unusedSimpArgs false
theorem heap33 : Kd.Heap k33 := Kd.heap_iso _ (Kd.heap_pair (Kd.heap_int _) (Kd.heap_pair (Kd.heap_int _) (Kd.heap_int _)))
theorem heap46 : Kd.Heap k46 := Kd.heap_iso _ (Kd.heap_pair (Kd.heap_int _) (Kd.heap_pair (Kd.heap_int _) Kd.heap_string))
theorem heap48 : Kd.Heap k48 := Kd.heap_iso _ (Kd.heap_pair Kd.heap_bool (Kd.heap_int _))
theorem heap41 : Kd.Heap k41 := Kd.heap_iso _ (Kd.heap_pair (Kd.heap_int _) (Kd.heap_pair (Kd.heap_int _) (Kd.heap_pair (Kd.heap_slice 48 heap48) (Kd.heap_pair (Kd.heap_slice 46 heap46) (Kd.heap_slice 33 heap33)))))
def P1 : S41 := ⟨0, 1, [], [], [⟨19, 0, 0⟩]⟩
def moreF (l : List S41) (mo : Int) (i : Nat) : S41 := ⟨(rd_T41 l i).f0, (rd_T41 l i).f1 + mo % 16, (rd_T41 l i).f2, (rd_T41 l i).f3, (rd_T41 l i).f4 ++ [⟨5, 0, 0⟩]⟩
def moreL (l : List S41) (mo : Int) (i : Nat) : List S41 := l.set i (moreF l mo i) ++ [P1]
def atM (l : List S41) (mo : Int) : Nat := (mo % l.length).toNat
def okM (gb g0 : Nat) (x : Nat) : Prop := gb + 1 ≤ x ∨ x < g0
structure AtM3 (w W : World) (gb g cp n c : Nat) (A : Option Addr) (l : List S41) : Prop where
  gt : w.heap.size < gb
  bel : Below w.heap.size w W
  kp : W.heap[w.heap.size]? = some (.cells #[.slice A n c] 28 (0, 0))
  kq : W.heap[gb]? = some (.cells #[.slice (some ⟨g, 0, none⟩) l.length cp] 28 (0, 0))
  nq : Kd.N k41 41 W (gb + 1) (okM gb w.heap.size) (.slice (some ⟨g, 0, none⟩) l.length cp) l
theorem atM3_of {w w2 w3 : World} {A : Option Addr} {l : List S41} {c g cp : Nat} (hB : Below w.heap.size w w2) (hP : w2.heap[w.heap.size]? = some (.cells #[.slice A l.length c] 28 (0, 0)))
    (hb : Below (w2.heap.size + 1) (w2.alloc (.cells #[.slice none 0 0] 28)) w3) (hg : w2.heap.size + 1 ≤ g)
    (hN : Kd.N k41 41 w3 (w2.heap.size + 1) (okM w2.heap.size w.heap.size) (.slice (some ⟨g, 0, none⟩) l.length cp) l) :
    AtM3 w (w3.setCell ⟨w2.heap.size, 0, none⟩ (.slice (some ⟨g, 0, none⟩) l.length cp)) w2.heap.size g cp l.length c A l := by
  have hz := blk_lt hP
  have hk3 : w3.heap[w2.heap.size]? = some (.cells #[.slice none 0 0] 28 (0, 0)) := (hb.block _ (Nat.lt_succ_self _)).trans (blk_new _ _)
  have hp3 : w3.heap[w.heap.size]? = some (.cells #[.slice A l.length c] 28 (0, 0)) := (hb.block _ (by omega)).trans (blk_alloc hP _)
  exact {
    gt := hz
    bel := Below.setCell ((below_alloc hB _).trans (hb.mono (by omega))) (by show w.heap.size ≤ w2.heap.size; omega) _
    kp := blk_far hp3 (by show w.heap.size ≠ w2.heap.size; omega) _
    kq := blk_put hk3 0 _ rfl
    nq := Kd.N_far hN (p := ⟨w2.heap.size, 0, none⟩) (fun x hx => by rcases hx with hx | hx <;> (show x ≠ w2.heap.size; omega)) _ }
theorem atM3_elem {w W : World} {gb g cp n c i : Nat} {A : Option Addr} {l : List S41} (h : AtM3 w W gb g cp n c A l) (hi : i < l.length) :
    ∃ A2 c2 A3 c3 A4 c4, W.cell? ⟨g, i * 5, none⟩ = some (.int .i64 (rd_T41 l i).f0) ∧ W.cell? ⟨g, i * 5 + 1, none⟩ = some (.int .i64 (rd_T41 l i).f1) ∧ W.cell? ⟨g, i * 5 + 2, none⟩ = some (.slice A2 (rd_T41 l i).f2.length c2) ∧
      W.cell? ⟨g, i * 5 + 3, none⟩ = some (.slice A3 (rd_T41 l i).f3.length c3) ∧ W.cell? ⟨g, i * 5 + 4, none⟩ = some (.slice A4 (rd_T41 l i).f4.length c4) ∧
      (rd_T41 l i).f2.length ≤ c2 ∧ Kd.F k48 W (fun k => okM gb w.heap.size k ∧ k ≠ g) A2 (rd_T41 l i).f2.length (rd_T41 l i).f2 ∧ (rd_T41 l i).f3.length ≤ c3 ∧ Kd.F k46 W (fun k => okM gb w.heap.size k ∧ k ≠ g) A3 (rd_T41 l i).f3.length (rd_T41 l i).f3 ∧
      (rd_T41 l i).f4.length ≤ c4 ∧ Kd.F k33 W (fun k => okM gb w.heap.size k ∧ k ≠ g) A4 (rd_T41 l i).f4.length (rd_T41 l i).f4 ∧ ∀ j, W.frozen? ⟨g, i * 5 + j, none⟩ = false := by
  obtain ⟨cs, hcl, hfk, hcell, hfro⟩ := Kd.N_elem h.nq z41 (i : Int) (by omega) (by omega)
  obtain ⟨A2, c2, A3, c3, A4, c4, rfl, l2, g2, l3, g3, l4, g4⟩ := k41_openF hfk
  have e : l.getD (i : Int).toNat z41 = rd_T41 l (i : Int) := rfl
  simp only [e] at hcell l2 g2 l3 g3 l4 g4
  simp only [Int.toNat_natCast, show k41.sz = 5 from rfl] at hcell hfro
  exact ⟨A2, c2, A3, c3, A4, c4, hcell 0 _ rfl, hcell 1 _ rfl, hcell 2 _ rfl, hcell 3 _ rfl, hcell 4 _ rfl, l2, g2, l3, g3, l4, g4, hfro⟩
theorem k33_KM {w w' : World} {base : Nat} {ok : Nat → Prop} (x : S33) (cs : List Value) (h : k33.K w x cs) : k33.M w' base ok x cs := by
  obtain rfl := k33_open h
  exact k33_mkM w' base ok x
theorem atM6_of {w W3 w6 W8 : World} {gb g cp n c i : Nat} {A A2 A3 A6 : Option Addr} {c2 c3 c6 n6 : Nat} {l : List S41} {f : S41} {u4 : Value} (h : AtM3 w W3 gb g cp n c A l) (hi : i < l.length) {ok6 : Nat → Prop} {gf : Nat} (hgf : W3.heap.size = gf) (hn6 : n6 = f.f4.length)
    (l2 : f.f2.length ≤ c2) (g2 : Kd.F k48 W3 (fun k => okM gb w.heap.size k ∧ k ≠ g) A2 f.f2.length f.f2) (l3 : f.f3.length ≤ c3) (g3 : Kd.F k46 W3 (fun k => okM gb w.heap.size k ∧ k ≠ g) A3 f.f3.length f.f3)
    (hb : Below (gf + 1) (W3.alloc (.cells #[.int .i64 f.f0, .int .i64 f.f1, .slice A2 f.f2.length c2, .slice A3 f.f3.length c3, u4] 41)) w6) (hok6 : ∀ k, ok6 k → gf + 1 ≤ k)
    (hR : Kd.R k33 33 w6 (gf + 1) ok6 (.slice A6 n6 c6) f.f4)
    (hW : W8 = (w6.setCell ⟨gf, 4, none⟩ (.slice A6 n6 c6)).setCells g (i * 5) [.int .i64 f.f0, .int .i64 f.f1, .slice A2 f.f2.length c2, .slice A3 f.f3.length c3, .slice A6 n6 c6]) :
    AtM3 w W8 gb g cp n c A (l.set i f) := by
  have hg1 : gb + 1 ≤ g := Kd.N_base h.nq g rfl
  have hg2 : g < gf := by have := Kd.N_lt h.nq g rfl; omega
  have hgt := h.gt
  subst hn6
  have hk7 : ∀ k, k < gf → (w6.setCell ⟨gf, 4, none⟩ (.slice A6 f.f4.length c6)).heap[k]? = W3.heap[k]? := fun k hk =>
    (Below.heap_setCell w6 ⟨gf, 4, none⟩ _ k (by show k ≠ gf; omega)).trans ((hb.block k (by omega)).trans ((below_alloc (Below.refl W3.heap.size W3) _).block k (by omega)))
  have hN7 := Kd.N_step h.nq (w1 := w6.setCell ⟨gf, 4, none⟩ (.slice A6 f.f4.length c6)) (fun k _ hk => hk7 k (by omega))
  have hle6 : f.f4.length ≤ c6 := (Kd.R_reads' hR).2.1
  have hF4 : Kd.F k33 (w6.setCell ⟨gf, 4, none⟩ (.slice A6 f.f4.length c6)) (fun k => okM gb w.heap.size k ∧ k ≠ g) A6 f.f4.length f.f4 :=
    Kd.F_mono (Kd.F_far (Kd.R_F hR) (p := ⟨gf, 4, none⟩) (fun k hk => by have := hok6 k hk; show k ≠ gf; omega) _) (fun k hk => by have := hok6 k hk; exact ⟨.inl (by omega), by omega⟩)
  have hF2 := Kd.F_step g2 (fun k _ hk => hk7 k (by omega))
  have hF3 := Kd.F_step g3 (fun k _ hk => hk7 k (by omega))
  have hFK := k41_mkF _ _ f l2 hF2 l3 hF3 hle6 hF4
  obtain ⟨cs, hcl, _, hcell, _⟩ := Kd.N_elem hN7 z41 (i : Int) (by omega) (by omega)
  have hseg := (Kd.N_seg hN7 (i : Int) (by omega) (by omega) (c := cs) (seg := [.int .i64 f.f0, .int .i64 f.f1, .slice A2 f.f2.length c2, .slice A3 f.f3.length c3, .slice A6 f.f4.length c6]) (j := 0) hcl hcell (by show 0 + 5 ≤ 5; omega) (x' := f) (okp := fun k => okM gb w.heap.size k ∧ k ≠ g) (by
    have e : cs.take 0 ++ [Value.int .i64 f.f0, .int .i64 f.f1, .slice A2 f.f2.length c2, .slice A3 f.f3.length c3, .slice A6 f.f4.length c6] ++ cs.drop (0 + [Value.int .i64 f.f0, .int .i64 f.f1, .slice A2 f.f2.length c2, .slice A3 f.f3.length c3, .slice A6 f.f4.length c6].length) = [Value.int .i64 f.f0, .int .i64 f.f1, .slice A2 f.f2.length c2, .slice A3 f.f3.length c3, .slice A6 f.f4.length c6] := by
      rw [List.drop_of_length_le (by rw [hcl]; exact Nat.le_refl 5)]; rfl
    rw [e]; exact hFK) (fun k hk => hk)).1
  simp only [Int.toNat_natCast, Nat.add_zero, show k41.sz = 5 from rfl] at hseg
  rw [← hW] at hseg
  have hbel7 : Below w.heap.size w (w6.setCell ⟨gf, 4, none⟩ (.slice A6 f.f4.length c6)) := ((below_alloc h.bel _).trans (hb.mono (by omega))).setCell (by show w.heap.size ≤ gf; omega) _
  have hf : ∀ k, k ≠ g → k < gf → W8.heap[k]? = W3.heap[k]? := fun k hk hk2 => by rw [hW, setCells_far _ _ k hk, hk7 k hk2]
  have hl : (l.set i f).length = l.length := List.length_set ..
  exact {
    gt := hgt
    bel := by rw [hW]; exact below_setCells (w := w) (W := w) (by omega) _ _ hbel7
    kp := (hf _ (by omega) (by omega)).trans h.kp
    kq := by rw [hl]; exact (hf _ (by omega) (by omega)).trans h.kq
    nq := by rw [hl]; exact hseg }
theorem at7_of {w W3 w6 : World} {gb g cp n c gf : Nat} {A : Option Addr} {l : List S41} {cs : Array Value} {u : Value} (h : AtM3 w W3 gb g cp n c A l) (hgf : W3.heap.size = gf) (hb : Below (gf + 1) (W3.alloc (.cells cs 41)) w6) :
    AtM3 w (w6.setCell ⟨gf, 4, none⟩ u) gb g cp n c A l ∧ (w6.setCell ⟨gf, 4, none⟩ u).heap[gf]? = some (.cells (cs.setIfInBounds 4 u) 41 (0, 0)) := by
  have hgt := h.gt
  have hb3 : gb < W3.heap.size := blk_lt h.kq
  have hk7 : ∀ k, k < gf → (w6.setCell ⟨gf, 4, none⟩ u).heap[k]? = W3.heap[k]? := fun k hk =>
    (Below.heap_setCell w6 ⟨gf, 4, none⟩ _ k (by show k ≠ gf; omega)).trans ((hb.block k (by omega)).trans ((below_alloc (Below.refl W3.heap.size W3) _).block k (by omega)))
  refine ⟨{
    gt := hgt
    bel := ((below_alloc h.bel _).trans (hb.mono (by omega))).setCell (by show w.heap.size ≤ gf; omega) _
    kp := (hk7 _ (by omega)).trans h.kp
    kq := (hk7 _ (by omega)).trans h.kq
    nq := Kd.N_step h.nq (fun k _ hk => hk7 k (by omega)) }, ?_⟩
  exact blk_set ((hb.block gf (Nat.lt_succ_self _)).trans (blk_new' hgf.symm)) 4 u
theorem F33_one {W : World} {g : Nat} {x : S33} (h : W.heap[g]? = some (.cells #[.int .i64 x.f0, .int .i64 x.f1, .int .i64 x.f2] 33 (0, 0))) {ok : Nat → Prop} (hok : ok g) : Kd.F k33 W ok (some ⟨g, 0, none⟩) 1 [x] :=
  fun W' hW => by
    have h2 := (hW g hok (blk_lt h)).trans h
    refine ⟨rfl, by decide, fun _ => ⟨_, rfl, fun j p hj => ?_⟩⟩
    rcases j with _ | j
    · obtain rfl : x = p := by simpa using hj
      refine ⟨[.int .i64 x.f0, .int .i64 x.f1, .int .i64 x.f2], rfl, k33_mk W' x, fun i u hi => ?_⟩
      rcases i with _ | _ | _ | i
      · exact (blk_cell h2 0).trans hi
      · exact (blk_cell h2 1).trans hi
      · exact (blk_cell h2 2).trans hi
      · simp at hi
    · simp at hj
theorem one_P1 (w : World) (b B : Nat) (hB : B ≤ b) (hl : B ≤ w.heap.size) (h : w.heap[b]? = some (.cells #[.int .i64 19, .int .i64 0, .int .i64 0] 33 (0, 0))) :
    Calls Try.prog 20 #[.int .i64 1, .slice (some ⟨b, 0, none⟩) 1 1] w fun e w' => ∃ d cp A2 c2 A3 c3 A4 c4, e = .returned (.agg #[.slice (some ⟨d, 0, none⟩) 1 cp]) ∧ w.heap.size ≤ d ∧
      w'.cell? ⟨d, 0, none⟩ = some (.int .i64 0) ∧ w'.cell? ⟨d, 1, none⟩ = some (.int .i64 1) ∧ w'.cell? ⟨d, 2, none⟩ = some (.slice A2 0 c2) ∧ w'.cell? ⟨d, 3, none⟩ = some (.slice A3 0 c3) ∧ w'.cell? ⟨d, 4, none⟩ = some (.slice A4 1 c4) ∧
      Kd.FK k41 w' (fun x => B ≤ x) P1 [.int .i64 0, .int .i64 1, .slice A2 0 c2, .slice A3 0 c3, .slice A4 1 c4] ∧ Below w.heap.size w w' := by
  refine (tallowlaw20_one.calls 1 (fun x => x = b) (some ⟨b, 0, none⟩) 1 [⟨19, 0, 0⟩] [P1] w ⟨some ⟨b, 0, none⟩, 1, rfl, Nat.le_refl 1, F33_one (x := ⟨19, 0, 0⟩) h rfl⟩ rfl).mono ?_
  rintro e w' ⟨v0, rfl, hN, hb⟩
  obtain ⟨d, cp, rfl, hd, _, _⟩ := Kd.N_form hN (by decide)
  obtain ⟨c, hcl, hfk, hcell, _⟩ := Kd.N_elem hN P1 0 (by decide) (by decide)
  have hfk2 : Kd.FK k41 w' (fun x => B ≤ x) P1 c := Kd.FK_mono hfk (fun x hx => by
    rcases hx.1 with e | e
    · omega
    · omega)
  obtain ⟨A2, c2, A3, c3, A4, c4, rfl, _⟩ := k41_openF hfk
  exact ⟨d, cp, A2, c2, A3, c3, A4, c4, rfl, hd, hcell 0 _ rfl, hcell 1 _ rfl, hcell 2 _ rfl, hcell 3 _ rfl, hcell 4 _ rfl, hfk2, hb⟩
def S16 (w : World) (gb g nq cp n c : Nat) (A : Option Addr) (l : List S41) (W : World) : Prop :=
  w.heap.size < gb ∧ Below w.heap.size w W ∧ W.heap[w.heap.size]? = some (.cells #[.slice A n c] 28 (0, 0)) ∧ W.heap[gb]? = some (.cells #[.slice (some ⟨g, 0, none⟩) nq cp] 28 (0, 0)) ∧
  Kd.N k41 41 W (gb + 1) (okM gb w.heap.size) (.slice (some ⟨g, 0, none⟩) nq cp) l ∧ gb + 1 ≤ g ∧ g < W.heap.size
theorem S16.of {w W : World} {gb g cp n c nq : Nat} {A : Option Addr} {l : List S41} (h : AtM3 w W gb g cp n c A l) (hn : l.length = nq) : S16 w gb g nq cp n c A l W := by
  subst hn
  exact ⟨h.gt, h.bel, h.kp, h.kq, h.nq, Kd.N_base h.nq g rfl, Kd.N_lt h.nq g rfl⟩
theorem S16.below {w W W1 : World} {gb g cp n c nq : Nat} {A : Option Addr} {l : List S41} (h : S16 w gb g nq cp n c A l W) (hb : Below W.heap.size W W1) : S16 w gb g nq cp n c A l W1 :=
  ⟨h.1, h.2.1.trans (hb.mono h.2.1.size), blk_below h.2.2.1 hb, blk_below h.2.2.2.1 hb, Kd.N_below h.2.2.2.2.1 hb, h.2.2.2.2.2.1, by have := h.2.2.2.2.2.2; have := hb.size; omega⟩
theorem S16.cell {w W : World} {gb g cp n c nq : Nat} {A : Option Addr} {l : List S41} (h : S16 w gb g nq cp n c A l W) : W.cell? ⟨gb, 0, none⟩ = some (.slice (some ⟨g, 0, none⟩) nq cp) := (blk_cell h.2.2.2.1 0).trans rfl
theorem S16.below2 {w W W1 : World} {gb g cp n c nq : Nat} {A : Option Addr} {l : List S41} (hb : Below W.heap.size W W1) (h : S16 w gb g nq cp n c A l W) : S16 w gb g nq cp n c A l W1 := h.below hb
def S17 (w : World) (gb nq n c : Nat) (A : Option Addr) (l : List S41) (A1 : Option Addr) (c1 : Nat) (W : World) : Prop :=
  Below w.heap.size w W ∧ W.heap[w.heap.size]? = some (.cells #[.slice A n c] 28 (0, 0)) ∧ W.heap[gb]? = some (.cells #[.slice A1 nq c1] 28 (0, 0)) ∧ Kd.C k41 W A1 nq l ∧ nq ≤ c1
theorem S17.below {w W W1 : World} {gb n c nq c1 : Nat} {A A1 : Option Addr} {l : List S41} (h : S17 w gb nq n c A l A1 c1 W) (hb : Below W.heap.size W W1) : S17 w gb nq n c A l A1 c1 W1 :=
  ⟨h.1.trans (hb.mono h.1.size), blk_below h.2.1 hb, blk_below h.2.2.1 hb, Kd.C_below h.2.2.2.1 hb, h.2.2.2.2⟩
theorem S16.next {w W w10 : World} {gb g cp n c nq c1 : Nat} {A A1 : Option Addr} {l : List S41} {p : S41} (h : S16 w gb g nq cp n c A l W) (hb : Below (gb + 1) W w10)
    (hN : Kd.N k41 41 w10 (gb + 1) (okM gb w.heap.size) (.slice A1 (l ++ [p]).length c1) (l ++ [p])) (hl : l.length = nq) :
    S17 w gb (nq + 1) n c A (l ++ [p]) A1 c1 (w10.setCell ⟨gb, 0, none⟩ (.slice A1 (nq + 1) c1)) := by
  obtain ⟨h1, h2, h3, h4, h5, _⟩ := h
  have e2 : (l ++ [p]).length = nq + 1 := by simp [hl]
  rw [e2] at hN
  have hr := Kd.N_reads' (Kd.N_far hN (p := ⟨gb, 0, none⟩) (fun x hx => by rcases hx with hx | hx <;> (show x ≠ gb; omega)) (.slice A1 (nq + 1) c1))
  rw [e2] at hr
  exact ⟨(h2.trans (hb.mono (by omega))).setCell (by show w.heap.size ≤ gb; omega) _, blk_far ((hb.block _ (by omega)).trans h3) (by show w.heap.size ≠ gb; omega) _, blk_put ((hb.block _ (Nat.lt_succ_self _)).trans h4) 0 _ rfl, hr.2.2, hr.2.1⟩
theorem same_n {w : World} {A0 A1 : Option Addr} {n0 n1 c0 c1 : Nat} {xs ys : List S41} {r : Bool} (k : Nat) (h0 : Kd.C k41 w A0 n0 xs) (hc0 : n0 ≤ c0) (h1 : Kd.C k41 w A1 n1 ys) (hc1 : n1 ≤ c1) (hf : code_Same.f k xs ys = some r) :
    Calls Try.prog 17 #[.agg #[.slice A0 n0 c0], .agg #[.slice A1 n1 c1]] w fun e w' => e = .returned (.bool r) ∧ Below w.heap.size w w' := by
  obtain rfl : xs.length = n0 := h0.1
  obtain rfl : ys.length = n1 := h1.1
  exact code_Same.calls k A0 c0 xs A1 c1 ys r w h0 hc0 h1 hc1 hf
theorem minfo33 : (Try.prog.info? 33).map (fun i => (i.zero, i.size, i.bytes)) = some (some (.agg #[(.int .i64 0), (.int .i64 0), (.int .i64 0)]), 3, 24) := by kernel_rfl
set_option maxHeartbeats 4000000 in
set_option maxRecDepth 100000 in
theorem more_any (A : Option Addr) (c : Nat) (l : List S41) (mo : Int) (w : World) (hr : Kd.C k41 w A l.length l) (hc : l.length ≤ c) (hm0 : 0 ≤ mo) (hm1 : mo ≤ 255) (kk : Nat)
    (h0 : code_Check.f kk l = some 0) (hn0 : 0 < l.length) (hn1 : l.length ≤ 256) (hr0 : 0 ≤ (rd_T41 l (atM l mo)).f1) (hr1 : (rd_T41 l (atM l mo)).f1 ≤ 250) (hcd : (rd_T41 l (atM l mo)).f4.length ≤ 16384)
    (h : ((rd_T41 l (atM l mo)).f1 + mo % 16 > 250 ∨ (rd_T41 l (atM l mo)).f1 = 0 ∨ (rd_T41 l (atM l mo)).f4.length ≥ 16384 ∨ l.length ≥ 256) ∨ code_Check.f kk (moreL l mo (atM l mo)) = some 0 ∧ code_Same.f kk l (moreL l mo (atM l mo)) = some false) :
    Calls Try.prog 7 #[.agg #[.slice A l.length c], .int .u8 mo] w fun e w' => e = .returned (.bool true) ∧ Below w.heap.size w w' := by
  obtain ⟨i, hi⟩ : ∃ i, i = atM l mo := ⟨_, rfl⟩
  rw [← hi] at hr0 hr1 hcd h
  have hmi : mo % (l.length : Int) = (i : Int) := by rw [hi]; unfold atM; have := Int.emod_nonneg mo (show (l.length : Int) ≠ 0 by omega); omega
  have hil : i < l.length := by have := Int.emod_lt_of_pos mo (show (0 : Int) < (l.length : Int) by omega); omega
  have HI := Aside0.mk hi
  clear hi
  have hu28 := Try.underlying28
  have hu41 := Try.underlying41
  have hu26 := Try.underlying26
  have HR := Aside0.mk hr
  have HC := Aside0.mk hc
  have H0 := Aside0.mk h0
  have H := Aside0.mk h
  clear hr hc h0 h
  go_enter Try.func7, Try.ntmps7
  go_wp2_with fail
  refine (tallowlaw20_works.calls true _ rfl).mono ?_
  rintro e w1 ⟨rfl, hb⟩
  have hp := blk_below (blk_new w (Obj.cells #[Value.slice A l.length c] 28)) hb
  have HB := Aside0.mk (below_step (below_alloc (Below.refl _ _) _) hb)
  clear hb
  have HP := Aside0.mk hp
  clear hp
  have cp0 : w1.cell? ⟨w.heap.size, 0, none⟩ = some (.slice A l.length c) := (blk_cell HP.out 0).trans rfl
  go_wp2_with fail
  refine (code_Check.calls kk A c l 0 w1 (Kd.C_below HR.out HB.out) HC.out H0.out).mono ?_
  rintro e w2 ⟨rfl, hb⟩
  have HP2 := Aside0.mk (blk_below HP.out hb)
  have HB2 := Aside0.mk (HB.out.trans (hb.mono HB.out.size))
  clear hb HP HB cp0
  have cp0 : w2.cell? ⟨w.heap.size, 0, none⟩ = some (.slice A l.length c) := (blk_cell HP2.out 0).trans rfl
  have HF := Aside0.mk (Kd.F_below (Kd.C_F heap41 HR.out) HB2.out)
  have cpa : ∀ o, (w2.alloc o).cell? ⟨w.heap.size, 0, none⟩ = some (.slice A l.length c) := fun o => (blk_cell (blk_alloc HP2.out o) 0).trans rfl
  have hz2 : w.heap.size < w2.heap.size := blk_lt HP2.out
  by_cases e0 : 250 < (rd_T41 l (i : Int)).f1 + mo % 16
  · have b0 : decide (250 < (rd_T41 l (i : Int)).f1 + mo % 16) = true := decide_eq_true e0
    go_wp2_with (at_builtin; (refine Kd.N_append_rows k41 (w0 := w2.alloc (.cells #[.slice none 0 0] 28)) (w2.heap.size + 1) rfl (.tmp 21) (.tmp 23) 26 41 (.agg #[(.int .i64 0), (.int .i64 0), (.slice none 0 0), (.slice none 0 0), (.slice none 0 0)]) 88 rfl Try.underlying26 info41 rfl (by decide) (by decide) (.slice none 0 0) [] l A l.length c (okM w2.heap.size w.heap.size) (fun x => x < w.heap.size) ?aS ?aX (Kd.N_nil _ _ _ _ _) (Kd.F_below HF.out (below_alloc (Below.refl _ _) _)) (fun _ hk => ⟨.inr hk, by simp [Value.ownBlock]⟩) (fun _ hk => .inl (by simp at hk; omega)) (Below.refl _ _) ?aZ ?aL ?_; (case aS => simp [Act.eval]); (case aX => simp [Act.eval]); (case aZ => simp); (case aL => simp; omega); intro v3 w3 HN3 hb3 _ _; obtain ⟨g3, cp3, rfl, hg3, hg3', _⟩ := Kd.N_form HN3 (by simpa using hn0); have HA3 := Aside0.mk (atM3_of HB2.out HP2.out hb3 hg3 HN3); have hk3 : w3.heap[w2.heap.size]? = some (.cells #[.slice none 0 0] 28 (0, 0)) := (hb3.block _ (Nat.lt_succ_self _)).trans (blk_new _ _); have cx3 : w3.cell? ⟨w2.heap.size, 0, none⟩ = some (.slice none 0 0) := (blk_cell hk3 0).trans rfl; have fx3 : w3.frozen? ⟨w2.heap.size, 0, none⟩ = false := blk_frozen hk3 0; have cq3 : (w3.setCell ⟨w2.heap.size, 0, none⟩ (.slice (some ⟨g3, 0, none⟩) l.length cp3)).cell? ⟨w2.heap.size, 0, none⟩ = some (.slice (some ⟨g3, 0, none⟩) l.length cp3) := (blk_cell HA3.out.kq 0).trans rfl; have cqa : ∀ o, ((w3.setCell ⟨w2.heap.size, 0, none⟩ (.slice (some ⟨g3, 0, none⟩) l.length cp3)).alloc o).cell? ⟨w2.heap.size, 0, none⟩ = some (.slice (some ⟨g3, 0, none⟩) l.length cp3) := fun o => (blk_cell (blk_alloc HA3.out.kq o) 0).trans rfl; obtain ⟨A2, c2, A3, c3, A4, c4, y0, y1, y2, y3, y4, l2, g2, l3, g3_, l4, g4, hfro⟩ := atM3_elem HA3.out hil; have L2 := Aside0.mk (And.intro l2 (And.intro g2 (And.intro l3 (And.intro g3_ (And.intro l4 g4))))); clear HN3 hb3 hk3 l2 g2 l3 g3_ l4 g4 hfro))
    all_goals
      go_ret
      exact ⟨rfl, below_alloc HA3.out.bel _⟩
  have b0 : decide (250 < (rd_T41 l (i : Int)).f1 + mo % 16) = false := decide_eq_false e0
  by_cases e1 : (rd_T41 l (i : Int)).f1 = 0
  · have b1 : ((rd_T41 l (i : Int)).f1 == 0) = true := beq_iff_eq.mpr e1
    go_wp2_with (at_builtin; (refine Kd.N_append_rows k41 (w0 := w2.alloc (.cells #[.slice none 0 0] 28)) (w2.heap.size + 1) rfl (.tmp 21) (.tmp 23) 26 41 (.agg #[(.int .i64 0), (.int .i64 0), (.slice none 0 0), (.slice none 0 0), (.slice none 0 0)]) 88 rfl Try.underlying26 info41 rfl (by decide) (by decide) (.slice none 0 0) [] l A l.length c (okM w2.heap.size w.heap.size) (fun x => x < w.heap.size) ?aS ?aX (Kd.N_nil _ _ _ _ _) (Kd.F_below HF.out (below_alloc (Below.refl _ _) _)) (fun _ hk => ⟨.inr hk, by simp [Value.ownBlock]⟩) (fun _ hk => .inl (by simp at hk; omega)) (Below.refl _ _) ?aZ ?aL ?_; (case aS => simp [Act.eval]); (case aX => simp [Act.eval]); (case aZ => simp); (case aL => simp; omega); intro v3 w3 HN3 hb3 _ _; obtain ⟨g3, cp3, rfl, hg3, hg3', _⟩ := Kd.N_form HN3 (by simpa using hn0); have HA3 := Aside0.mk (atM3_of HB2.out HP2.out hb3 hg3 HN3); have hk3 : w3.heap[w2.heap.size]? = some (.cells #[.slice none 0 0] 28 (0, 0)) := (hb3.block _ (Nat.lt_succ_self _)).trans (blk_new _ _); have cx3 : w3.cell? ⟨w2.heap.size, 0, none⟩ = some (.slice none 0 0) := (blk_cell hk3 0).trans rfl; have fx3 : w3.frozen? ⟨w2.heap.size, 0, none⟩ = false := blk_frozen hk3 0; have cq3 : (w3.setCell ⟨w2.heap.size, 0, none⟩ (.slice (some ⟨g3, 0, none⟩) l.length cp3)).cell? ⟨w2.heap.size, 0, none⟩ = some (.slice (some ⟨g3, 0, none⟩) l.length cp3) := (blk_cell HA3.out.kq 0).trans rfl; have cqa : ∀ o, ((w3.setCell ⟨w2.heap.size, 0, none⟩ (.slice (some ⟨g3, 0, none⟩) l.length cp3)).alloc o).cell? ⟨w2.heap.size, 0, none⟩ = some (.slice (some ⟨g3, 0, none⟩) l.length cp3) := fun o => (blk_cell (blk_alloc HA3.out.kq o) 0).trans rfl; obtain ⟨A2, c2, A3, c3, A4, c4, y0, y1, y2, y3, y4, l2, g2, l3, g3_, l4, g4, hfro⟩ := atM3_elem HA3.out hil; have L2 := Aside0.mk (And.intro l2 (And.intro g2 (And.intro l3 (And.intro g3_ (And.intro l4 g4))))); clear HN3 hb3 hk3 l2 g2 l3 g3_ l4 g4 hfro))
    all_goals
      go_ret
      exact ⟨rfl, below_alloc HA3.out.bel _⟩
  have b1 : ((rd_T41 l (i : Int)).f1 == 0) = false := beq_eq_false_iff_ne.mpr e1
  by_cases e2 : (16384 : Int) ≤ ((rd_T41 l (i : Int)).f4.length : Int)
  · have b2 : decide ((16384 : Int) ≤ ((rd_T41 l (i : Int)).f4.length : Int)) = true := decide_eq_true e2
    go_wp2_with (at_builtin; (refine Kd.N_append_rows k41 (w0 := w2.alloc (.cells #[.slice none 0 0] 28)) (w2.heap.size + 1) rfl (.tmp 21) (.tmp 23) 26 41 (.agg #[(.int .i64 0), (.int .i64 0), (.slice none 0 0), (.slice none 0 0), (.slice none 0 0)]) 88 rfl Try.underlying26 info41 rfl (by decide) (by decide) (.slice none 0 0) [] l A l.length c (okM w2.heap.size w.heap.size) (fun x => x < w.heap.size) ?aS ?aX (Kd.N_nil _ _ _ _ _) (Kd.F_below HF.out (below_alloc (Below.refl _ _) _)) (fun _ hk => ⟨.inr hk, by simp [Value.ownBlock]⟩) (fun _ hk => .inl (by simp at hk; omega)) (Below.refl _ _) ?aZ ?aL ?_; (case aS => simp [Act.eval]); (case aX => simp [Act.eval]); (case aZ => simp); (case aL => simp; omega); intro v3 w3 HN3 hb3 _ _; obtain ⟨g3, cp3, rfl, hg3, hg3', _⟩ := Kd.N_form HN3 (by simpa using hn0); have HA3 := Aside0.mk (atM3_of HB2.out HP2.out hb3 hg3 HN3); have hk3 : w3.heap[w2.heap.size]? = some (.cells #[.slice none 0 0] 28 (0, 0)) := (hb3.block _ (Nat.lt_succ_self _)).trans (blk_new _ _); have cx3 : w3.cell? ⟨w2.heap.size, 0, none⟩ = some (.slice none 0 0) := (blk_cell hk3 0).trans rfl; have fx3 : w3.frozen? ⟨w2.heap.size, 0, none⟩ = false := blk_frozen hk3 0; have cq3 : (w3.setCell ⟨w2.heap.size, 0, none⟩ (.slice (some ⟨g3, 0, none⟩) l.length cp3)).cell? ⟨w2.heap.size, 0, none⟩ = some (.slice (some ⟨g3, 0, none⟩) l.length cp3) := (blk_cell HA3.out.kq 0).trans rfl; have cqa : ∀ o, ((w3.setCell ⟨w2.heap.size, 0, none⟩ (.slice (some ⟨g3, 0, none⟩) l.length cp3)).alloc o).cell? ⟨w2.heap.size, 0, none⟩ = some (.slice (some ⟨g3, 0, none⟩) l.length cp3) := fun o => (blk_cell (blk_alloc HA3.out.kq o) 0).trans rfl; obtain ⟨A2, c2, A3, c3, A4, c4, y0, y1, y2, y3, y4, l2, g2, l3, g3_, l4, g4, hfro⟩ := atM3_elem HA3.out hil; have L2 := Aside0.mk (And.intro l2 (And.intro g2 (And.intro l3 (And.intro g3_ (And.intro l4 g4))))); clear HN3 hb3 hk3 l2 g2 l3 g3_ l4 g4 hfro))
    all_goals
      go_ret
      exact ⟨rfl, below_alloc HA3.out.bel _⟩
  have b2 : decide ((16384 : Int) ≤ ((rd_T41 l (i : Int)).f4.length : Int)) = false := decide_eq_false e2
  by_cases e3 : (256 : Int) ≤ (l.length : Int)
  · have b3 : decide ((256 : Int) ≤ (l.length : Int)) = true := decide_eq_true e3
    go_wp2_with (at_builtin; (refine Kd.N_append_rows k41 (w0 := w2.alloc (.cells #[.slice none 0 0] 28)) (w2.heap.size + 1) rfl (.tmp 21) (.tmp 23) 26 41 (.agg #[(.int .i64 0), (.int .i64 0), (.slice none 0 0), (.slice none 0 0), (.slice none 0 0)]) 88 rfl Try.underlying26 info41 rfl (by decide) (by decide) (.slice none 0 0) [] l A l.length c (okM w2.heap.size w.heap.size) (fun x => x < w.heap.size) ?aS ?aX (Kd.N_nil _ _ _ _ _) (Kd.F_below HF.out (below_alloc (Below.refl _ _) _)) (fun _ hk => ⟨.inr hk, by simp [Value.ownBlock]⟩) (fun _ hk => .inl (by simp at hk; omega)) (Below.refl _ _) ?aZ ?aL ?_; (case aS => simp [Act.eval]); (case aX => simp [Act.eval]); (case aZ => simp); (case aL => simp; omega); intro v3 w3 HN3 hb3 _ _; obtain ⟨g3, cp3, rfl, hg3, hg3', _⟩ := Kd.N_form HN3 (by simpa using hn0); have HA3 := Aside0.mk (atM3_of HB2.out HP2.out hb3 hg3 HN3); have hk3 : w3.heap[w2.heap.size]? = some (.cells #[.slice none 0 0] 28 (0, 0)) := (hb3.block _ (Nat.lt_succ_self _)).trans (blk_new _ _); have cx3 : w3.cell? ⟨w2.heap.size, 0, none⟩ = some (.slice none 0 0) := (blk_cell hk3 0).trans rfl; have fx3 : w3.frozen? ⟨w2.heap.size, 0, none⟩ = false := blk_frozen hk3 0; have cq3 : (w3.setCell ⟨w2.heap.size, 0, none⟩ (.slice (some ⟨g3, 0, none⟩) l.length cp3)).cell? ⟨w2.heap.size, 0, none⟩ = some (.slice (some ⟨g3, 0, none⟩) l.length cp3) := (blk_cell HA3.out.kq 0).trans rfl; have cqa : ∀ o, ((w3.setCell ⟨w2.heap.size, 0, none⟩ (.slice (some ⟨g3, 0, none⟩) l.length cp3)).alloc o).cell? ⟨w2.heap.size, 0, none⟩ = some (.slice (some ⟨g3, 0, none⟩) l.length cp3) := fun o => (blk_cell (blk_alloc HA3.out.kq o) 0).trans rfl; obtain ⟨A2, c2, A3, c3, A4, c4, y0, y1, y2, y3, y4, l2, g2, l3, g3_, l4, g4, hfro⟩ := atM3_elem HA3.out hil; have L2 := Aside0.mk (And.intro l2 (And.intro g2 (And.intro l3 (And.intro g3_ (And.intro l4 g4))))); clear HN3 hb3 hk3 l2 g2 l3 g3_ l4 g4 hfro))
    all_goals
      go_ret
      exact ⟨rfl, below_alloc HA3.out.bel _⟩
  have b3 : decide ((256 : Int) ≤ (l.length : Int)) = false := decide_eq_false e3
  have hH : code_Check.f kk (moreL l mo i) = some 0 ∧ code_Same.f kk l (moreL l mo i) = some false := by
    rcases H.out with h | h
    · omega
    · exact h
  have HQ := Aside0.mk hH.1
  have HS := Aside0.mk hH.2
  clear hH H
  go_upto_region 11 with (at_builtin; (refine Kd.N_append_rows k41 (w0 := w2.alloc (.cells #[.slice none 0 0] 28)) (w2.heap.size + 1) rfl (.tmp 21) (.tmp 23) 26 41 (.agg #[(.int .i64 0), (.int .i64 0), (.slice none 0 0), (.slice none 0 0), (.slice none 0 0)]) 88 rfl Try.underlying26 info41 rfl (by decide) (by decide) (.slice none 0 0) [] l A l.length c (okM w2.heap.size w.heap.size) (fun x => x < w.heap.size) ?aS ?aX (Kd.N_nil _ _ _ _ _) (Kd.F_below HF.out (below_alloc (Below.refl _ _) _)) (fun _ hk => ⟨.inr hk, by simp [Value.ownBlock]⟩) (fun _ hk => .inl (by simp at hk; omega)) (Below.refl _ _) ?aZ ?aL ?_; (case aS => simp [Act.eval]); (case aX => simp [Act.eval]); (case aZ => simp); (case aL => simp; omega); intro v3 w3 HN3 hb3 _ _; obtain ⟨g3, cp3, rfl, hg3, hg3', _⟩ := Kd.N_form HN3 (by simpa using hn0); have HA3 := Aside0.mk (atM3_of HB2.out HP2.out hb3 hg3 HN3); have hk3 : w3.heap[w2.heap.size]? = some (.cells #[.slice none 0 0] 28 (0, 0)) := (hb3.block _ (Nat.lt_succ_self _)).trans (blk_new _ _); have cx3 : w3.cell? ⟨w2.heap.size, 0, none⟩ = some (.slice none 0 0) := (blk_cell hk3 0).trans rfl; have fx3 : w3.frozen? ⟨w2.heap.size, 0, none⟩ = false := blk_frozen hk3 0; have cq3 : (w3.setCell ⟨w2.heap.size, 0, none⟩ (.slice (some ⟨g3, 0, none⟩) l.length cp3)).cell? ⟨w2.heap.size, 0, none⟩ = some (.slice (some ⟨g3, 0, none⟩) l.length cp3) := (blk_cell HA3.out.kq 0).trans rfl; have cqa : ∀ o, ((w3.setCell ⟨w2.heap.size, 0, none⟩ (.slice (some ⟨g3, 0, none⟩) l.length cp3)).alloc o).cell? ⟨w2.heap.size, 0, none⟩ = some (.slice (some ⟨g3, 0, none⟩) l.length cp3) := fun o => (blk_cell (blk_alloc HA3.out.kq o) 0).trans rfl; obtain ⟨A2, c2, A3, c3, A4, c4, y0, y1, y2, y3, y4, l2, g2, l3, g3_, l4, g4, hfro⟩ := atM3_elem HA3.out hil; have L2 := Aside0.mk (And.intro l2 (And.intro g2 (And.intro l3 (And.intro g3_ (And.intro l4 g4))))); clear HN3 hb3 hk3 l2 g2 l3 g3_ l4 g4 hfro))
  go_upto_region 12 with (fail)
  go_upto_region 13 with (fail)
  go_upto_region 14 with (at_builtin; (refine Kd.R_append_rows k33 (Rr := k33.K _) (w3.heap.size + 1) rfl (.tmp 62) (.tmp 64) 39 33 (.agg #[(.int .i64 0), (.int .i64 0), (.int .i64 0)]) 24 rfl Try.underlying39 minfo33 rfl ?bD ?bE (.slice none 0 0) [] (rd_T41 l (i : Int)).f4 A4 (rd_T41 l (i : Int)).f4.length c4 (fun x => w3.heap.size + 1 ≤ x) (fun _ => False) ?bS ?bX (Kd.R_nil _ _ _ _ _) (Kd.F_now (Kd.F_below L2.out.2.2.2.2.2 (below_alloc (Below.refl _ _) _))) (fun x cs h => k33_KM x cs h) (fun _ hk => hk.elim) ?bF (Below.refl _ _) ?bZ ?bL ?_; (case bD => decide); (case bE => decide); (case bF => intro x hx; simp at hx; omega); (case bS => simp [Act.eval]); (case bX => simp [Act.eval]); (case bZ => simp); (case bL => first | omega | (simp; done) | (simp; omega)); (intro v5 w5 HR5 hb5 _ _); (obtain ⟨A5, cp5, rfl⟩ := Kd.R_slice HR5); replace HR5 := Aside0.mk HR5; (have hz5 : w3.heap.size + 1 ≤ w5.heap.size := by have := hb5.size; first | omega | (simp at this; omega)); replace hb5 := Aside0.mk hb5))
  go_upto_region 15 with (at_builtin; (refine Kd.R_append k33 (w3.heap.size + 1) rfl (.tmp 66) (.tmp 68) 39 33 (.agg #[(.int .i64 0), (.int .i64 0), (.int .i64 0)]) 24 rfl Try.underlying39 minfo33 rfl ?cD ?cE (.slice A5 (rd_T41 l (i : Int)).f4.length cp5) (rd_T41 l (i : Int)).f4 ⟨5, 0, 0⟩ [.int .i64 5, .int .i64 0, .int .i64 0] (fun x => w3.heap.size + 1 ≤ x) (fun _ => False) ?cS ?cX (k33_mkM _ _ _ _) (fun _ hk => hk.elim) ?cF HR5.out hb5.out hz5 ?cL ?_; (case cD => decide); (case cE => decide); (case cF => intro x hx; omega); (case cS => simp [Act.eval]); (case cX => simp [Act.eval]); (case cL => omega); intro v6 w6 HR6 hb6 _ _; obtain ⟨A6, cp6, rfl⟩ := Kd.R_slice HR6; replace HR6 := Aside0.mk HR6; replace hb6 := Aside0.mk hb6); have hk6 : w6.heap[w3.heap.size]? = some (.cells #[.int .i64 (rd_T41 l (i : Int)).f0, .int .i64 ((rd_T41 l (i : Int)).f1 + mo % 16), .slice A2 (rd_T41 l (i : Int)).f2.length c2, .slice A3 (rd_T41 l (i : Int)).f3.length c3, .slice A4 (rd_T41 l (i : Int)).f4.length c4] 41 (0, 0)) := (hb6.out.block _ (Nat.lt_succ_self _)).trans (blk_new' (by simp)); have c6 : w6.cell? ⟨w3.heap.size, 4, none⟩ = some (.slice A4 (rd_T41 l (i : Int)).f4.length c4) := (blk_cell hk6 4).trans rfl; have fz6 : w6.frozen? ⟨w3.heap.size, 4, none⟩ = false := blk_frozen hk6 4; clear hk6)
  obtain ⟨W3, hW3⟩ : ∃ x, x = (w3.setCell ⟨w2.heap.size, 0, none⟩ (.slice (some ⟨g3, 0, none⟩) l.length cp3)) := ⟨_, rfl⟩
  rw [← hW3] at HA3 L2 hb5 hb6
  have hz3 : W3.heap.size = w3.heap.size := by rw [hW3]; exact World.size_setCell _ _ _
  clear hW3 y0 y1 y2 y3 y4 cq3 cqa c6 fz6 HR5 hb5 hz5
  generalize w3.heap.size = gf at *
  generalize w2.heap.size = gb at *
  have h7 := at7_of (u := .slice A6 ((rd_T41 l (i : Int)).f4.length + 1) cp6) HA3.out hz3 hb6.out
  have H7 := Aside0.mk h7.1
  have hk7 := h7.2
  have y0 : (w6.setCell ⟨gf, 4, none⟩ (.slice A6 ((rd_T41 l (i : Int)).f4.length + 1) cp6)).cell? ⟨gf, 0, none⟩ = some (.int .i64 (rd_T41 l (i : Int)).f0) := (blk_cell hk7 0).trans rfl
  have y1 : (w6.setCell ⟨gf, 4, none⟩ (.slice A6 ((rd_T41 l (i : Int)).f4.length + 1) cp6)).cell? ⟨gf, 1, none⟩ = some (.int .i64 ((rd_T41 l (i : Int)).f1 + mo % 16)) := (blk_cell hk7 1).trans rfl
  have y2 : (w6.setCell ⟨gf, 4, none⟩ (.slice A6 ((rd_T41 l (i : Int)).f4.length + 1) cp6)).cell? ⟨gf, 2, none⟩ = some (.slice A2 (rd_T41 l (i : Int)).f2.length c2) := (blk_cell hk7 2).trans rfl
  have y3 : (w6.setCell ⟨gf, 4, none⟩ (.slice A6 ((rd_T41 l (i : Int)).f4.length + 1) cp6)).cell? ⟨gf, 3, none⟩ = some (.slice A3 (rd_T41 l (i : Int)).f3.length c3) := (blk_cell hk7 3).trans rfl
  have y4 : (w6.setCell ⟨gf, 4, none⟩ (.slice A6 ((rd_T41 l (i : Int)).f4.length + 1) cp6)).cell? ⟨gf, 4, none⟩ = some (.slice A6 ((rd_T41 l (i : Int)).f4.length + 1) cp6) := (blk_cell hk7 4).trans rfl
  have cq7 : (w6.setCell ⟨gf, 4, none⟩ (.slice A6 ((rd_T41 l (i : Int)).f4.length + 1) cp6)).cell? ⟨gb, 0, none⟩ = some (.slice (some ⟨g3, 0, none⟩) l.length cp3) := (blk_cell H7.out.kq 0).trans rfl
  obtain ⟨_, _, _, _, _, _, z0, z1, z2, z3, z4, _, _, _, _, _, _, hfro⟩ := atM3_elem H7.out hil
  have f0 := hfro 0
  have f1 := hfro 1
  have f2 := hfro 2
  have f3 := hfro 3
  have f4 := hfro 4
  simp only [Nat.add_zero] at f0
  have H8 := Aside0.mk (atM6_of (W8 := ((((((w6.setCell ⟨gf, 4, none⟩ (.slice A6 ((rd_T41 l (i : Int)).f4.length + 1) cp6)).setCell ⟨g3, i * 5, none⟩ (.int .i64 (rd_T41 l (i : Int)).f0)).setCell ⟨g3, i * 5 + 1, none⟩ (.int .i64 ((rd_T41 l (i : Int)).f1 + mo % 16))).setCell ⟨g3, i * 5 + 2, none⟩ (.slice A2 (rd_T41 l (i : Int)).f2.length c2)).setCell ⟨g3, i * 5 + 3, none⟩ (.slice A3 (rd_T41 l (i : Int)).f3.length c3)).setCell ⟨g3, i * 5 + 4, none⟩ (.slice A6 ((rd_T41 l (i : Int)).f4.length + 1) cp6))) (f := moreF l mo i) (n6 := (rd_T41 l (i : Int)).f4.length + 1) HA3.out hil hz3 (by simp [moreF]) L2.out.1 L2.out.2.1 L2.out.2.2.1 L2.out.2.2.2.1 hb6.out (fun _ h => h) (by have := HR6.out; rw [show (rd_T41 l (i : Int)).f4.length + 1 = (moreF l mo i).f4.length by simp [moreF]]; exact this) rfl)
  clear HR6 hb6 L2 HA3 h7 H7 hk7 hfro
  go_upto_region 16 with (fail)
  clear cx3 fx3 y0 y1 y2 y3 y4 cq7 z0 z1 z2 z3 z4 f0 f1 f2 f3 f4
  have H16 := Aside0.mk (S16.of H8.out (nq := l.length) (by simp))
  clear H8
  generalize ((((((w6.setCell ⟨gf, 4, none⟩ (.slice A6 ((rd_T41 l (i : Int)).f4.length + 1) cp6)).setCell ⟨g3, i * 5, none⟩ (.int .i64 (rd_T41 l (i : Int)).f0)).setCell ⟨g3, i * 5 + 1, none⟩ (.int .i64 ((rd_T41 l (i : Int)).f1 + mo % 16))).setCell ⟨g3, i * 5 + 2, none⟩ (.slice A2 (rd_T41 l (i : Int)).f2.length c2)).setCell ⟨g3, i * 5 + 3, none⟩ (.slice A3 (rd_T41 l (i : Int)).f3.length c3)).setCell ⟨g3, i * 5 + 4, none⟩ (.slice A6 ((rd_T41 l (i : Int)).f4.length + 1) cp6)) = W8 at *
  have hF28 := field28
  have hgb : gb + 1 ≤ W8.heap.size := blk_lt H16.out.2.2.2.1
  have hg3a := H16.out.2.2.2.2.2.1
  have hg3b := H16.out.2.2.2.2.2.2
  have cv0 : W8.cell? ⟨gb, 0, none⟩ = some (.slice (some ⟨g3, 0, none⟩) l.length cp3) := S16.cell H16.out
  have cva : ∀ o, (W8.alloc o).cell? ⟨gb, 0, none⟩ = some (.slice (some ⟨g3, 0, none⟩) l.length cp3) := fun o => S16.cell (S16.below H16.out (below_alloc (Below.refl _ _) o))
  have cvb : ∀ o, (W8.drew.alloc o).cell? ⟨gb, 0, none⟩ = some (.slice (some ⟨g3, 0, none⟩) l.length cp3) := fun o => S16.cell (S16.below H16.out (below_alloc (below_drew (Below.refl _ _)) o))
  have hlq : (l.set i (moreF l mo i)).length = l.length := List.length_set ..
  have HLQ := Aside0.mk hlq
  clear hlq
  generalize hq : l.set i (moreF l mo i) = lq at *
  have HLE := Aside0.mk hq
  clear hq
  go_region_law
    (first
      | (refine goes_ (f := 20) (N := some 80) Try.func20 (by kernel_rfl) rfl #[.int .i64 1, .slice (some ⟨W8.heap.size, 0, none⟩) 1 1] rfl rfl rfl (by simp [Act.eval]) ?_; refine (one_P1 _ _ W8.heap.size (by simp) (by simp) (by first | exact blk_new _ _ | (apply blk_drew; exact blk_new _ _))).mono ?_; rintro e w8 ⟨d, cp, A2, c2, A3, c3, A4, c4, rfl, hd, x0, x1, x2, x3, x4, hfk, hb8⟩; refine ⟨_, rfl, ?_⟩; have hc8 : w8.cell? ⟨gb, 0, none⟩ = some (.slice (some ⟨g3, 0, none⟩) l.length cp3) := S16.cell (S16.below2 hb8 (S16.below H16.out (by (repeat (first | exact Below.refl _ _ | apply below_drew | apply below_alloc)); done))); have hc8a : ∀ o, (w8.alloc o).cell? ⟨gb, 0, none⟩ = some (.slice (some ⟨g3, 0, none⟩) l.length cp3) := fun o => S16.cell (S16.below (S16.below2 hb8 (S16.below H16.out (by (repeat (first | exact Below.refl _ _ | apply below_drew | apply below_alloc)); done))) (below_alloc (Below.refl _ _) o)))
      | (refine N_append_lies k41 rfl (.tmp 77) (.tmp 84) 26 41 (.agg #[(.int .i64 0), (.int .i64 0), (.slice none 0 0), (.slice none 0 0), (.slice none 0 0)]) 88 rfl Try.underlying26 info41 rfl (by decide) (gb + 1) (.slice (some ⟨g3, 0, none⟩) l.length cp3) lq P1 [.int .i64 0, .int .i64 1, .slice A2 0 c2, .slice A3 0 c3, .slice A4 1 c4] (okM gb w.heap.size) (fun x => W8.heap.size ≤ x) _ (by simp [Act.eval]) (by simp [Act.eval]; rfl) (by first | exact blk_new _ _ | (apply blk_drew; exact blk_new _ _)) (by refine Kd.FK_below hfk ?_; (repeat (first | exact Below.refl _ _ | apply below_drew | apply below_alloc)); done) (fun x hx => ⟨.inl (Nat.le_trans hgb hx), fun e => by simp [Value.ownBlock] at e; omega⟩) (fun x hx => .inl (by have := hb8.size; simp at *; omega)) (S16.below (S16.below2 hb8 (S16.below H16.out (by (repeat (first | exact Below.refl _ _ | apply below_drew | apply below_alloc)); done))) (by (repeat (first | exact Below.refl _ _ | apply below_drew | apply below_alloc)); done)).2.2.2.2.1 (blk_lt (S16.below (S16.below2 hb8 (S16.below H16.out (by (repeat (first | exact Below.refl _ _ | apply below_drew | apply below_alloc)); done))) (by (repeat (first | exact Below.refl _ _ | apply below_drew | apply below_alloc)); done)).2.2.2.1) (by rw [HLQ.out]; simp [maxLen]; omega) (by rw [HLQ.out]; omega) ?_; intro v10 w10 HN10 hg10 hb10; have hk10 := (hb10.block gb (Nat.lt_succ_self _)).trans (S16.below (S16.below2 hb8 (S16.below H16.out (by (repeat (first | exact Below.refl _ _ | apply below_drew | apply below_alloc)); done))) (by (repeat (first | exact Below.refl _ _ | apply below_drew | apply below_alloc)); done)).2.2.2.1; have hc10 : w10.cell? ⟨gb, 0, none⟩ = some (.slice (some ⟨g3, 0, none⟩) l.length cp3) := (blk_cell hk10 0).trans rfl; have f10 : w10.frozen? ⟨gb, 0, none⟩ = false := blk_frozen hk10 0; obtain ⟨A10, cp10, rfl⟩ := Kd.N_slice HN10; have HE10 := Aside0.mk (S16.next (S16.below (S16.below2 hb8 (S16.below H16.out (by (repeat (first | exact Below.refl _ _ | apply below_drew | apply below_alloc)); done))) (by (repeat (first | exact Below.refl _ _ | apply below_drew | apply below_alloc)); done)) hb10 HN10 HLQ.out)))
  all_goals
    rw [HLQ.out]
    clear cv0 cva cvb hc8 hc8a x0 x1 x2 x3 x4 hfk hk10 hc10 f10 hb10 hg10 HN10
    generalize (w10.setCell ⟨gb, 0, none⟩ (.slice A10 (l.length + 1) cp10)) = W10 at *
    have cq : W10.cell? ⟨gb, 0, none⟩ = some (.slice A10 (l.length + 1) cp10) := (blk_cell HE10.out.2.2.1 0).trans rfl
    go_wp2_with fail
    refine (check_n kk HE10.out.2.2.2.1 HE10.out.2.2.2.2 (by have := HQ.out; unfold moreL at this; rw [HLE.out] at this; exact this)).mono ?_
    rintro e w11 ⟨rfl, hb11⟩
    have H11 := Aside0.mk (S17.below HE10.out hb11)
    clear hb11 cq HE10
    have cq : w11.cell? ⟨gb, 0, none⟩ = some (.slice A10 (l.length + 1) cp10) := (blk_cell H11.out.2.2.1 0).trans rfl
    have cp : w11.cell? ⟨w.heap.size, 0, none⟩ = some (.slice A l.length c) := (blk_cell H11.out.2.1 0).trans rfl
    go_wp2_with fail
    refine (same_n kk (Kd.C_below HR.out H11.out.1) HC.out H11.out.2.2.2.1 H11.out.2.2.2.2 (by have := HS.out; unfold moreL at this; rw [HLE.out] at this; exact this)).mono ?_
    rintro e w12 ⟨rfl, hb12⟩
    have HB12 := Aside0.mk (H11.out.1.trans (hb12.mono H11.out.1.size))
    clear hb12 cq cp H11
    go_wp2_with fail
    go_ret
    exact ⟨rfl, HB12.out⟩
set_option maxHeartbeats 1000000 in
set_option maxRecDepth 100000 in
theorem more_no (A : Option Addr) (c : Nat) (l : List S41) (mo : Int) (w : World) (hr : Kd.C k41 w A l.length l) (hc : l.length ≤ c) (kk : Nat) (r0 : Int)
    (h0 : code_Check.f kk l = some r0) (hn0 : ¬ r0 = 0) :
    Calls Try.prog 7 #[.agg #[.slice A l.length c], .int .u8 mo] w fun e w' => e = .returned (.bool true) ∧ Below w.heap.size w w' := by
  have hu28 := Try.underlying28
  have HR := Aside0.mk hr
  have HC := Aside0.mk hc
  have H0 := Aside0.mk h0
  have b0 : (r0 == 0) = false := beq_eq_false_iff_ne.mpr hn0
  clear hr hc h0
  go_enter Try.func7, Try.ntmps7
  go_wp2_with fail
  refine (tallowlaw20_works.calls true _ rfl).mono ?_
  rintro e w1 ⟨rfl, hb⟩
  have hp := blk_below (blk_new w (Obj.cells #[Value.slice A l.length c] 28)) hb
  have HB := Aside0.mk (below_step (below_alloc (Below.refl _ _) _) hb)
  clear hb
  have HP := Aside0.mk hp
  clear hp
  have cp0 : w1.cell? ⟨w.heap.size, 0, none⟩ = some (.slice A l.length c) := (blk_cell HP.out 0).trans rfl
  go_wp2_with fail
  refine (code_Check.calls kk A c l r0 w1 (Kd.C_below HR.out HB.out) HC.out H0.out).mono ?_
  rintro e w2 ⟨rfl, hb⟩
  have HB2 := Aside0.mk (HB.out.trans (hb.mono HB.out.size))
  clear hb HB cp0
  go_wp2_with fail
  go_ret
  exact ⟨rfl, HB2.out⟩
def tallowlaw20_CodeMore.f (k : Nat) (l : List S41) (mo : Int) : Option Bool :=
  (code_Check.f k l).bind fun r0 => if r0 = 0 then
    (if 0 < l.length ∧ l.length ≤ 256 ∧ 0 ≤ (rd_T41 l (atM l mo)).f1 ∧ (rd_T41 l (atM l mo)).f1 ≤ 250 ∧ (rd_T41 l (atM l mo)).f4.length ≤ 16384 ∧ 0 ≤ mo ∧ mo ≤ 255 then
      (if ((rd_T41 l (atM l mo)).f1 + mo % 16 > 250 ∨ (rd_T41 l (atM l mo)).f1 = 0 ∨ (rd_T41 l (atM l mo)).f4.length ≥ 16384 ∨ l.length ≥ 256) then some true
      else (code_Check.f k (moreL l mo (atM l mo))).bind fun r1 => (code_Same.f k l (moreL l mo (atM l mo))).bind fun s => if r1 = 0 ∧ s = false then some true else none)
    else none) else some true
theorem tallowlaw20_CodeMore.calls (k : Nat) (A0_0 : Option Addr) (c0_0 : Nat) (l0_0 : List S41) (a1 : Int) (r : Bool) (w : World) (hr0_0 : Kd.C k41 w A0_0 l0_0.length l0_0) (hc0_0 : l0_0.length ≤ c0_0) (h : tallowlaw20_CodeMore.f k l0_0 a1 = some r) :
    Calls Try.prog 7 #[.agg #[.slice A0_0 l0_0.length c0_0], .int .u8 a1] w fun e w' => e = .returned (.bool r) ∧ Below w.heap.size w w' := by
  unfold tallowlaw20_CodeMore.f at h
  obtain ⟨r0, h0, h⟩ := Option.bind_eq_some_iff.1 h
  by_cases hz : r0 = 0
  · subst hz
    rw [if_pos rfl] at h
    by_cases hg : 0 < l0_0.length ∧ l0_0.length ≤ 256 ∧ 0 ≤ (rd_T41 l0_0 (atM l0_0 a1)).f1 ∧ (rd_T41 l0_0 (atM l0_0 a1)).f1 ≤ 250 ∧ (rd_T41 l0_0 (atM l0_0 a1)).f4.length ≤ 16384 ∧ 0 ≤ a1 ∧ a1 ≤ 255
    · rw [if_pos hg] at h
      obtain ⟨g1, g2, g3, g4, g5, g6, g7⟩ := hg
      by_cases he : ((rd_T41 l0_0 (atM l0_0 a1)).f1 + a1 % 16 > 250 ∨ (rd_T41 l0_0 (atM l0_0 a1)).f1 = 0 ∨ (rd_T41 l0_0 (atM l0_0 a1)).f4.length ≥ 16384 ∨ l0_0.length ≥ 256)
      · rw [if_pos he] at h
        injection h with h
        subst h
        exact more_any A0_0 c0_0 l0_0 a1 w hr0_0 hc0_0 g6 g7 k h0 g1 g2 g3 g4 g5 (.inl he)
      · rw [if_neg he] at h
        obtain ⟨r1, h1, h⟩ := Option.bind_eq_some_iff.1 h
        obtain ⟨s, h2, h⟩ := Option.bind_eq_some_iff.1 h
        by_cases hc : r1 = 0 ∧ s = false
        · rw [if_pos hc] at h
          injection h with h
          subst h
          obtain ⟨rfl, rfl⟩ := hc
          exact more_any A0_0 c0_0 l0_0 a1 w hr0_0 hc0_0 g6 g7 k h0 g1 g2 g3 g4 g5 (.inr ⟨h1, h2⟩)
        · rw [if_neg hc] at h; cases h
    · rw [if_neg hg] at h; cases h
  · rw [if_neg hz] at h
    injection h with h
    subst h
    exact more_no A0_0 c0_0 l0_0 a1 w hr0_0 hc0_0 k r0 h0 hz
end Go.Proofs.Ytpdcedmnkkiekaa.G
end
