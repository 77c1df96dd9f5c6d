import Derived.Test.YtpdcedmnkkiekaaPInGx0
import Derived.Test.YtpdcedmnkkiekaaPInLoose
import Derived.Lib.Hide
set_option linter.unusedVariables false
set_option linter.unusedSimpArgs false
section
namespace Go.Proofs.Ytpdcedmnkkiekaa.G
open Go.RowKit Go.Proofs.YtpdcedmnkkiekaaW.PrintWords Go.Proofs.YtpdcedmnkkiekaaW.PrintLast Go.Proofs.YtpdcedmnkkiekaaW.PrintMore
set_option linter.unusedVariables false
set_option linter.unusedSimpArgs false
def P0 : S41 := ⟨0, 1, [], [], [⟨0, 0, 0⟩, ⟨19, 0, 0⟩]⟩
def St1 (W0 : World) (g k : Nat) (v : Value) (wr : World) : Prop :=
  Kept W0 wr (fun i => i = g + 3) ∧ wr.heap[g + 3]? = some (.cells #[v] 28 (0, 0)) ∧ Kd.N k41 41 wr (g + 5) (fun i => i = g + 4 ∨ g + 5 ≤ i) v (List.replicate k P0)
structure At0 (W : World) (g : Nat) (a b c u0 u1 u2 u3 : Int) : Prop where
  sz : W.heap.size = g + 5
  ki : W.heap[g]? = some (.cells #[.int .i64 a, .int .i64 b, .int .i64 c] 33 (0, 0))
  kl : W.heap[g + 1]? = some (.cells #[.int .u8 u0, .int .u8 u1, .int .u8 u2, .int .u8 u3] 34 (0, 0))
  kr : W.heap[g + 2]? = some (.cells #[.slice none 0 0] 28 (0, 0))
  kp : W.heap[g + 3]? = some (.cells #[.slice none 0 0] 28 (0, 0))
  ke : W.heap[g + 4]? = some (.cells #[.int .i64 0, .int .i64 0, .int .i64 0, .int .i64 19, .int .i64 0, .int .i64 0] 33 (0, 0))
theorem blk_new' {w : World} {o : Obj} {i : Nat} (h : i = w.heap.size) : (w.alloc o).heap[i]? = some o := h ▸ blk_new w o
theorem kept_at {w W : World} {S : Nat → Prop} (h : Kept w W S) {i : Nat} {o : Obj} (hi : w.heap[i]? = some o) (hs : ¬ S i) : W.heap[i]? = some o :=
  (h.2 i (Array.getElem?_eq_some_iff.1 hi).1 hs).trans hi
theorem C33_two {W : World} {g : Nat} {x y : S33} (h : W.heap[g]? = some (.cells #[.int .i64 x.f0, .int .i64 x.f1, .int .i64 x.f2, .int .i64 y.f0, .int .i64 y.f1, .int .i64 y.f2] 33 (0, 0))) : Kd.C k33 W (some ⟨g, 0, none⟩) 2 [x, y] := by
  refine ⟨rfl, by decide, fun _ => ⟨_, rfl, fun j p hj => ?_⟩⟩
  rcases j with _ | _ | j
  · obtain rfl : x = p := by simpa using hj
    refine ⟨[.int .i64 x.f0, .int .i64 x.f1, .int .i64 x.f2], rfl, k33_mk W x, fun i u hi => ?_⟩
    rcases i with _ | _ | _ | i
    · exact (blk_cell h 0).trans hi
    · exact (blk_cell h 1).trans hi
    · exact (blk_cell h 2).trans hi
    · simp at hi
  · obtain rfl : y = p := by simpa using hj
    refine ⟨[.int .i64 y.f0, .int .i64 y.f1, .int .i64 y.f2], rfl, k33_mk W y, fun i u hi => ?_⟩
    rcases i with _ | _ | _ | i
    · exact (blk_cell h 3).trans hi
    · exact (blk_cell h 4).trans hi
    · exact (blk_cell h 5).trans hi
    · simp at hi
  · simp at hj
theorem F33_two {W : World} {g : Nat} {x y : S33} (h : W.heap[g]? = some (.cells #[.int .i64 x.f0, .int .i64 x.f1, .int .i64 x.f2, .int .i64 y.f0, .int .i64 y.f1, .int .i64 y.f2] 33 (0, 0))) {ok : Nat → Prop} (hok : ok g) : Kd.F k33 W ok (some ⟨g, 0, none⟩) 2 [x, y] :=
  fun W' hW => C33_two ((hW g hok (blk_lt h)).trans h)
theorem P0_FK {W : World} {g : Nat} (h : W.heap[g]? = some (.cells #[.int .i64 0, .int .i64 0, .int .i64 0, .int .i64 19, .int .i64 0, .int .i64 0] 33 (0, 0))) :
    Kd.FK k41 W (fun i => i = g) P0 [.int .i64 0, .int .i64 1, .slice none 0 0, .slice none 0 0, .slice (some ⟨g, 0, none⟩) 2 2] :=
  k41_mkF W _ P0 (Nat.le_refl 0) (Kd.F_nil _ _ _) (Nat.le_refl 0) (Kd.F_nil _ _ _) (Nat.le_refl 2) (F33_two (x := ⟨0, 0, 0⟩) (y := ⟨19, 0, 0⟩) h rfl)
theorem bel_set {w wr w1 : World} {g B b j : Nat} {u : Value} (h : Below g w wr) (hb : Below B wr w1) (h1 : g ≤ B) (h2 : g ≤ b) : Below g w (w1.setCell ⟨b, j, none⟩ u) :=
  h.trans ((hb.mono h1).trans (Below.setCell (Below.refl g w1) h2 u))
theorem bel_alloc2 {w wr : World} {g : Nat} (h : Below g w wr) (hg : g ≤ wr.heap.size) (o o' : Obj) : Below g w ((wr.alloc o).alloc o') := h.trans ((below_alloc (below_alloc (Below.refl _ _) _) _).mono hg)
theorem st1_step {W0 wr w1 : World} {g k cp : Nat} {A : Option Addr} {v1 : Value} (hsz : W0.heap.size = g + 5) (h : St1 W0 g k (.slice A (List.replicate k P0).length cp) wr) (hb : Below (g + 5) wr w1)
    (hN : Kd.N k41 41 w1 (g + 5) (fun i => i = g + 4 ∨ g + 5 ≤ i) v1 (List.replicate k P0 ++ [P0])) : St1 W0 g (k + 1) v1 (w1.setCell ⟨g + 3, 0, none⟩ v1) := by
  obtain ⟨hk, hp, _⟩ := h
  have hp1 := (hb.block (g + 3) (by omega)).trans hp
  refine ⟨⟨?_, fun i hi hn => ?_⟩, ?_, ?_⟩
  · have h1 := hk.1
    have h2 := hb.size
    rw [World.size_setCell]
    omega
  · rw [Below.heap_setCell w1 _ v1 i hn, hb.block i (by omega), hk.2 i hi hn]
  · exact blk_set hp1 0 v1
  · rw [List.replicate_succ']
    exact Kd.N_far hN (p := ⟨g + 3, 0, none⟩) (fun i hi => by show i ≠ g + 3; omega) v1
def consts (n : Nat) : List S46 := (List.range n).map fun (i : Nat) => ⟨3 + 2 * ((i : Int) % 2), 0, ⟨#[]⟩⟩
def ups (n : Nat) : List S48 := (List.range n).map fun (i : Nat) => ⟨false, (i : Int)⟩
theorem consts_succ (n : Nat) : consts (n + 1) = consts n ++ [⟨3 + 2 * ((n : Int) % 2), 0, ⟨#[]⟩⟩] := by unfold consts; rw [List.range_succ, List.map_append]; rfl
theorem ups_succ (n : Nat) : ups (n + 1) = ups n ++ [⟨false, (n : Int)⟩] := by unfold ups; rw [List.range_succ, List.map_append]; rfl
theorem consts_len (n : Nat) : (consts n).length = n := by unfold consts; simp
theorem ups_len (n : Nat) : (ups n).length = n := by unfold ups; simp
theorem pinfo46 : (Try.prog.info? 46).map (fun i => (i.zero, i.size, i.bytes)) = some (some (.agg #[(.int .i64 0), (.int .i64 0), (.string ⟨#[]⟩)]), 3, 32) := by kernel_rfl
theorem pinfo48 : (Try.prog.info? 48).map (fun i => (i.zero, i.size, i.bytes)) = some (some (.agg #[(.bool false), (.int .i64 0)]), 2, 16) := by kernel_rfl
structure At1 (W : World) (g q m : Nat) (a b c regs u0 u1 u2 u3 : Int) (vp : Value) : Prop where
  sz : W.heap.size = q + 2
  hq : g + 5 ≤ q
  kl : W.heap[g + 1]? = some (.cells #[.int .u8 u0, .int .u8 u1, .int .u8 u2, .int .u8 u3] 34 (0, 0))
  kr : W.heap[g + 2]? = some (.cells #[.slice none 0 0] 28 (0, 0))
  kp : W.heap[g + 3]? = some (.cells #[vp] 28 (0, 0))
  kc : W.heap[q]? = some (.cells #[.int .i64 a, .int .i64 b, .int .i64 c, .int .i64 a, .int .i64 b, .int .i64 c] 33 (0, 0))
  kq : W.heap[q + 1]? = some (.cells #[.int .i64 0, .int .i64 regs, .slice none 0 0, .slice none 0 0, .slice (some ⟨q, 0, none⟩) 2 2] 41 (0, 0))
  np : Kd.N k41 41 W (g + 5) (fun i => (i = g + 4 ∨ g + 5 ≤ i) ∧ i < q) vp (List.replicate m P0)
theorem at1_of {W0 wr : World} {g k : Nat} {a b c regs u0 u1 u2 u3 : Int} {v : Value} (hA : At0 W0 g a b c u0 u1 u2 u3) (h : St1 W0 g k v wr) :
    At1 ((wr.alloc (.cells #[.int .i64 a, .int .i64 b, .int .i64 c, .int .i64 a, .int .i64 b, .int .i64 c] 33)).alloc (.cells #[.int .i64 0, .int .i64 regs, .slice none 0 0, .slice none 0 0, .slice (some ⟨wr.heap.size, 0, none⟩) 2 2] 41)) g wr.heap.size k a b c regs u0 u1 u2 u3 v := {
  sz := by simp
  hq := by have := h.1.1; have := hA.sz; omega
  kl := blk_alloc (blk_alloc (kept_at h.1 hA.kl (by omega)) _) _
  kr := blk_alloc (blk_alloc (kept_at h.1 hA.kr (by omega)) _) _
  kp := blk_alloc (blk_alloc h.2.1 _) _
  kc := blk_alloc (blk_new _ _) _
  kq := blk_new' (by simp)
  np := Kd.N_alloc (Kd.N_alloc (Kd.N_bound h.2.2) _) _ }
def St2 (W1 : World) (q j : Nat) (regs : Int) (v : Value) (wr : World) : Prop :=
  Kept W1 wr (fun i => i = q + 1) ∧ wr.heap[q + 1]? = some (.cells #[.int .i64 0, .int .i64 regs, .slice none 0 0, v, .slice (some ⟨q, 0, none⟩) 2 2] 41 (0, 0)) ∧ Kd.R k46 46 wr (q + 2) (fun i => q + 2 ≤ i) v (consts j)
theorem st2_step {W1 wr w1 : World} {q j : Nat} {regs : Int} {v v1 : Value} (hsz : W1.heap.size = q + 2) (h : St2 W1 q j regs v wr) (hb : Below (q + 2) wr w1)
    (hR : Kd.R k46 46 w1 (q + 2) (fun i => q + 2 ≤ i) v1 (consts j ++ [⟨3 + 2 * ((j : Int) % 2), 0, ⟨#[]⟩⟩])) : St2 W1 q (j + 1) regs v1 (w1.setCell ⟨q + 1, 3, none⟩ v1) := by
  obtain ⟨hk, hp, _⟩ := h
  have hp1 := (hb.block (q + 1) (by omega)).trans hp
  refine ⟨⟨?_, fun i hi hn => ?_⟩, ?_, ?_⟩
  · have h1 := hk.1
    have h2 := hb.size
    rw [World.size_setCell]
    omega
  · rw [Below.heap_setCell w1 _ v1 i hn, hb.block i (by omega), hk.2 i hi hn]
  · exact blk_set hp1 3 v1
  · rw [consts_succ]
    exact Kd.R_far hR (p := ⟨q + 1, 3, none⟩) (fun i hi => by show i ≠ q + 1; omega) v1
def St3 (W2 : World) (q j : Nat) (regs : Int) (vC v : Value) (wr : World) : Prop :=
  Kept W2 wr (fun i => i = q + 1) ∧ wr.heap[q + 1]? = some (.cells #[.int .i64 0, .int .i64 regs, v, vC, .slice (some ⟨q, 0, none⟩) 2 2] 41 (0, 0)) ∧ Kd.R k48 48 wr W2.heap.size (fun i => W2.heap.size ≤ i) v (ups j)
theorem st3_step {W2 wr w1 : World} {q j : Nat} {regs : Int} {vC v v1 : Value} (hsz : q + 2 ≤ W2.heap.size) (h : St3 W2 q j regs vC v wr) (hb : Below W2.heap.size wr w1)
    (hR : Kd.R k48 48 w1 W2.heap.size (fun i => W2.heap.size ≤ i) v1 (ups j ++ [⟨false, (j : Int)⟩])) : St3 W2 q (j + 1) regs vC v1 (w1.setCell ⟨q + 1, 2, none⟩ v1) := by
  obtain ⟨hk, hp, _⟩ := h
  have hp1 := (hb.block (q + 1) (by omega)).trans hp
  refine ⟨⟨?_, fun i hi hn => ?_⟩, ?_, ?_⟩
  · have h1 := hk.1
    have h2 := hb.size
    rw [World.size_setCell]
    omega
  · rw [Below.heap_setCell w1 _ v1 i hn, hb.block i (by omega), hk.2 i hi hn]
  · exact blk_set hp1 2 v1
  · rw [ups_succ]
    exact Kd.R_far hR (p := ⟨q + 1, 2, none⟩) (fun i hi => by show i ≠ q + 1; omega) v1
def PX (a b c regs : Int) (i j : Nat) : S41 := ⟨0, regs, ups i, consts j, [⟨a, b, c⟩, ⟨a, b, c⟩]⟩
def progL (a b c u0 u1 u2 u3 : Int) : List S41 := List.replicate ((u3 % 3).toNat + 1) P0 ++ [PX a b c (u0 % 30) (u2 % 5).toNat (u1 % 5).toNat]
structure At3 (W : World) (g q m : Nat) (a b c regs : Int) (i j : Nat) (A2 A3 : Option Addr) (cp2 cp3 : Nat) (vp : Value) : Prop where
  sz : g + 5 ≤ W.heap.size
  hq : g + 5 ≤ q
  kr : W.heap[g + 2]? = some (.cells #[.slice none 0 0] 28 (0, 0))
  kp : W.heap[g + 3]? = some (.cells #[vp] 28 (0, 0))
  kq : W.heap[q + 1]? = some (.cells #[.int .i64 0, .int .i64 regs, .slice A3 (ups i).length cp3, .slice A2 (consts j).length cp2, .slice (some ⟨q, 0, none⟩) 2 2] 41 (0, 0))
  np : Kd.N k41 41 W (g + 5) (fun i => i = g + 4 ∨ g + 5 ≤ i) vp (List.replicate m P0)
  lt : ∀ k, vp.ownBlock = some k → k < q
  fx : Kd.FK k41 W (fun i => q ≤ i) (PX a b c regs i j) [.int .i64 0, .int .i64 regs, .slice A3 (ups i).length cp3, .slice A2 (consts j).length cp2, .slice (some ⟨q, 0, none⟩) 2 2]
theorem fin_of {W1 W2 wr : World} {g q m i j : Nat} {a b c regs u0 u1 u2 u3 : Int} {vp : Value} {A2 A3 : Option Addr} {cp2 cp3 : Nat} (hA : At1 W1 g q m a b c regs u0 u1 u2 u3 vp)
    (h2 : St2 W1 q j regs (.slice A2 (consts j).length cp2) W2) (h3 : St3 W2 q i regs (.slice A2 (consts j).length cp2) (.slice A3 (ups i).length cp3) wr) : At3 wr g q m a b c regs i j A2 A3 cp2 cp3 vp := by
  have hq := hA.hq
  have s1 := hA.sz
  have s2 := h2.1.1
  have s3 := h3.1.1
  have hR2 : Kd.R k46 46 wr (q + 2) (fun i => q + 2 ≤ i) (.slice A2 (consts j).length cp2) (consts j) := Kd.R_kept h2.2.2 h3.1 (fun k hk => by omega)
  obtain ⟨_, _, e2, l2, _⟩ := Kd.R_reads hR2
  obtain ⟨_, _, e3, l3, _⟩ := Kd.R_reads h3.2.2
  injection e2 with _ _ e2
  injection e3 with _ _ e3
  exact {
    sz := by omega
    hq := hq
    kr := kept_at h3.1 (kept_at h2.1 hA.kr (by omega)) (by omega)
    kp := kept_at h3.1 (kept_at h2.1 hA.kp (by omega)) (by omega)
    kq := h3.2.1
    np := Kd.N_mono (Kd.N_kept (Kd.N_kept hA.np h2.1 (fun k hk => by omega)) h3.1 (fun k hk => by omega)) (fun k hk => hk.1)
    lt := fun k hk => (hA.np.1 k hk).2
    fx := k41_mkF wr _ (PX a b c regs i j) (e3 ▸ l3) (Kd.F_mono (Kd.R_F h3.2.2) (fun k hk => by omega)) (e2 ▸ l2) (Kd.F_mono (Kd.R_F hR2) (fun k hk => by omega)) (Nat.le_refl 2)
      (F33_two (x := ⟨a, b, c⟩) (y := ⟨a, b, c⟩) (kept_at h3.1 (kept_at h2.1 hA.kc (by omega)) (by omega)) (Nat.le_refl q)) }
set_option maxHeartbeats 4000000 in
set_option maxRecDepth 100000 in
theorem program_any (a b c u0 u1 u2 u3 : Int) (w : World) (h0 : 0 ≤ u0 ∧ u0 < 256) (h1 : 0 ≤ u1 ∧ u1 < 256) (h2 : 0 ≤ u2 ∧ u2 < 256) (h3 : 0 ≤ u3 ∧ u3 < 256) :
    Calls Try.prog 19 #[.agg #[.int .i64 a, .int .i64 b, .int .i64 c], .agg #[.int .u8 u0, .int .u8 u1, .int .u8 u2, .int .u8 u3]] w
      fun e w' => ∃ A cp, e = .returned (.agg #[.slice A (progL a b c u0 u1 u2 u3).length cp]) ∧ (progL a b c u0 u1 u2 u3).length ≤ cp ∧ Kd.C k41 w' A (progL a b c u0 u1 u2 u3).length (progL a b c u0 u1 u2 u3) ∧ Below w.heap.size w w' := by
  generalize hPL : progL a b c u0 u1 u2 u3 = PL
  have HPL := Aside0.mk hPL
  clear hPL
  go_enter Try.func19, Try.ntmps19
  go_wp2_with fail
  have HB : Aside0 (Below w.heap.size w (((((w.alloc (Obj.cells #[Value.int IntKind.i64 a, Value.int IntKind.i64 b, Value.int IntKind.i64 c] 33)).alloc (Obj.cells #[Value.int IntKind.u8 u0, Value.int IntKind.u8 u1, Value.int IntKind.u8 u2, Value.int IntKind.u8 u3] 34)).alloc (Obj.cells #[Value.slice none 0 0] 28)).alloc (Obj.cells #[Value.slice none 0 0] 28)).alloc (Obj.cells #[Value.int IntKind.i64 0, Value.int IntKind.i64 0, Value.int IntKind.i64 0, Value.int IntKind.i64 19, Value.int IntKind.i64 0, Value.int IntKind.i64 0] 33))) := ⟨by repeat (first | exact Below.refl _ _ | apply below_alloc)⟩
  have HA : Aside0 (At0 (((((w.alloc (Obj.cells #[Value.int IntKind.i64 a, Value.int IntKind.i64 b, Value.int IntKind.i64 c] 33)).alloc (Obj.cells #[Value.int IntKind.u8 u0, Value.int IntKind.u8 u1, Value.int IntKind.u8 u2, Value.int IntKind.u8 u3] 34)).alloc (Obj.cells #[Value.slice none 0 0] 28)).alloc (Obj.cells #[Value.slice none 0 0] 28)).alloc (Obj.cells #[Value.int IntKind.i64 0, Value.int IntKind.i64 0, Value.int IntKind.i64 0, Value.int IntKind.i64 19, Value.int IntKind.i64 0, Value.int IntKind.i64 0] 33)) w.heap.size a b c u0 u1 u2 u3) := ⟨{
    sz := by simp
    ki := blk_alloc (blk_alloc (blk_alloc (blk_alloc (blk_new' (by simp)) _) _) _) _
    kl := blk_alloc (blk_alloc (blk_alloc (blk_new' (by simp)) _) _) _
    kr := blk_alloc (blk_alloc (blk_new' (by simp)) _) _
    kp := blk_alloc (blk_new' (by simp)) _
    ke := blk_new' (by simp) }⟩
  generalize (((((w.alloc (Obj.cells #[Value.int IntKind.i64 a, Value.int IntKind.i64 b, Value.int IntKind.i64 c] 33)).alloc (Obj.cells #[Value.int IntKind.u8 u0, Value.int IntKind.u8 u1, Value.int IntKind.u8 u2, Value.int IntKind.u8 u3] 34)).alloc (Obj.cells #[Value.slice none 0 0] 28)).alloc (Obj.cells #[Value.slice none 0 0] 28)).alloc (Obj.cells #[Value.int IntKind.i64 0, Value.int IntKind.i64 0, Value.int IntKind.i64 0, Value.int IntKind.i64 19, Value.int IntKind.i64 0, Value.int IntKind.i64 0] 33)) = W0 at *
  obtain ⟨g, hgw⟩ : ∃ g, w.heap.size = g := ⟨_, rfl⟩
  rw [hgw] at HA HB ⊢
  have HGW := Aside0.mk hgw
  clear hgw
  go_loopw [7] (fun v7 wr => ∃ k : Nat, v7 = .int .i64 k ∧ Aside0 (k ≤ u3 % 3 + 1) ∧ Aside0 (Below g w wr) ∧ ∃ v, Aside0 (St1 W0 g k v wr)) (fun v _ => 4 - (intOf v).toNat)
  case atStart =>
    exact ⟨0, rfl, ⟨by omega⟩, HB, .slice none 0 0, ⟨⟨Nat.le_refl _, fun _ _ _ => rfl⟩, HA.out.kp, Kd.N_nil _ _ _ _ _⟩⟩
  case round =>
    obtain ⟨k, rfl, hk, HBr, v, HS⟩ := hrel
    clear HB
    obtain ⟨A, cp, rfl⟩ := Kd.N_slice HS.out.2.2
    have c3 : wr.cell? ⟨g + 1, 3, none⟩ = some (.int .u8 u3) := (blk_cell (kept_at HS.out.1 HA.out.kl (by omega)) 3).trans rfl
    have cpv : wr.cell? ⟨g + 1 + 1 + 1, 0, none⟩ = some (.slice A (List.replicate k P0).length cp) := (blk_cell HS.out.2.1 0).trans rfl
    by_cases hlt : (k : Int) ≤ u3 % 3
    · go_wp2_with (at_builtin; (refine Kd.N_append k41 (w0 := wr) (g + 5) rfl (.tmp 23) (.tmp 26) 26 41 (.agg #[(.int .i64 0), (.int .i64 0), (.slice none 0 0), (.slice none 0 0), (.slice none 0 0)]) 88 rfl Try.underlying26 info41 rfl (by decide) (by decide) (.slice A (List.replicate k P0).length cp) (List.replicate k P0) P0 [.int .i64 0, .int .i64 1, .slice none 0 0, .slice none 0 0, .slice (some ⟨g + 4, 0, none⟩) 2 2] (fun i => i = g + 4 ∨ g + 5 ≤ i) (fun i => i = g + 4) ?aS ?aX ?aP ?aK (fun _ hk => by have := HS.out.1.1; have := HA.out.sz; omega) HS.out.2.2 (Below.refl _ _) ?aZ ?aL ?_; (case aS => simp [Act.eval]); (case aX => simp [Act.eval]); (case aP => exact P0_FK (kept_at HS.out.1 HA.out.ke (by omega))); (case aK => exact fun i hi => ⟨.inl hi, fun e => by have := Kd.N_base HS.out.2.2 i e.symm; omega⟩); (case aZ => have := HS.out.1.1; have := HA.out.sz; omega); (case aL => simp; have := h3; omega); intro v1 w1 HN1 hb1 hg1 hat1; replace HN1 := Aside0.mk HN1; replace hb1 := Aside0.mk hb1; clear hg1 hat1; obtain ⟨A1, cp1, rfl⟩ := Kd.N_slice HN1.out; have hp1 := (hb1.out.block (g + 3) (by omega)).trans HS.out.2.1; have c1 : w1.cell? ⟨g + 1 + 1 + 1, 0, none⟩ = some (.slice A (List.replicate k P0).length cp) := (blk_cell hp1 0).trans rfl; have f1 : w1.frozen? ⟨g + 1 + 1 + 1, 0, none⟩ = false := blk_frozen hp1 0; clear hp1))
      have HS2 := Aside0.mk (st1_step HA.out.sz HS.out hb1.out HN1.out)
      have HBr2 := Aside0.mk (bel_set (u := .slice A1 (List.replicate k P0 ++ [P0]).length cp1) (j := 0) HBr.out hb1.out (show g ≤ g + 5 by omega) (show g ≤ g + 3 by omega))
      clear c1 f1 HN1 hb1 HS
      go_wp2_with fail
      go_roundw
      case rel => exact ⟨k + 1, by simp, ⟨by omega⟩, by simpa using HBr2, _, by simpa using HS2⟩
      case measure => simp [intOf]; omega
    · have hk2 : ((k : Nat) : Int) = u3 % 3 + 1 := by have := hk.out; omega
      have cu0 : wr.cell? ⟨g + 1, 0, none⟩ = some (.int .u8 u0) := (blk_cell (kept_at HS.out.1 HA.out.kl (by omega)) 0).trans rfl
      have ci0 : wr.cell? ⟨g, 0, none⟩ = some (.int .i64 a) := (blk_cell (kept_at HS.out.1 HA.out.ki (by omega)) 0).trans rfl
      have ci1 : wr.cell? ⟨g, 1, none⟩ = some (.int .i64 b) := (blk_cell (kept_at HS.out.1 HA.out.ki (by omega)) 1).trans rfl
      have ci2 : wr.cell? ⟨g, 2, none⟩ = some (.int .i64 c) := (blk_cell (kept_at HS.out.1 HA.out.ki (by omega)) 2).trans rfl
      go_wp2_with fail
      have HA1 := Aside0.mk (at1_of (regs := u0 % 30) HA.out HS.out)
      have HBw : Aside0 (Below g w ((wr.alloc (Obj.cells #[Value.int IntKind.i64 a, Value.int IntKind.i64 b, Value.int IntKind.i64 c, Value.int IntKind.i64 a, Value.int IntKind.i64 b, Value.int IntKind.i64 c] 33)).alloc (Obj.cells #[Value.int IntKind.i64 0, Value.int IntKind.i64 (u0 % 30), Value.slice none 0 0, Value.slice none 0 0, Value.slice (some { block := wr.heap.size, off := 0 }) 2 2] 41))) := ⟨bel_alloc2 HBr.out (by have := HS.out.1.1; have := HA.out.sz; omega) _ _⟩
      clear HS HA HBr c3 cpv cu0 ci0 ci1 ci2
      generalize ((wr.alloc (Obj.cells #[Value.int IntKind.i64 a, Value.int IntKind.i64 b, Value.int IntKind.i64 c, Value.int IntKind.i64 a, Value.int IntKind.i64 b, Value.int IntKind.i64 c] 33)).alloc (Obj.cells #[Value.int IntKind.i64 0, Value.int IntKind.i64 (u0 % 30), Value.slice none 0 0, Value.slice none 0 0, Value.slice (some { block := wr.heap.size, off := 0 }) 2 2] 41)) = W1 at *
      generalize wr.heap.size = q at *
      go_loopw [9] (fun v9 wr => ∃ j : Nat, v9 = .int .i64 j ∧ Aside0 (j ≤ u1 % 5) ∧ Aside0 (Below g w wr) ∧ ∃ v, Aside0 (St2 W1 q j (u0 % 30) v wr)) (fun v _ => 5 - (intOf v).toNat)
      case atStart =>
        exact ⟨0, rfl, ⟨by omega⟩, HBw, .slice none 0 0, ⟨⟨Nat.le_refl _, fun _ _ _ => rfl⟩, HA1.out.kq, Kd.R_nil _ _ _ _ _⟩⟩
      case round =>
        obtain ⟨j, rfl, hj, HBr, v, HS⟩ := hrel
        clear HBw
        have hgq0 := HA1.out.hq
        obtain ⟨A2, cp2, rfl⟩ := Kd.R_slice HS.out.2.2
        have c1 : wr.cell? ⟨g + 1, 1, none⟩ = some (.int .u8 u1) := (blk_cell (kept_at HS.out.1 HA1.out.kl (by have := HA1.out.hq; omega)) 1).trans rfl
        have cpc : wr.cell? ⟨q + 1, 3, none⟩ = some (.slice A2 (consts j).length cp2) := (blk_cell HS.out.2.1 3).trans rfl
        by_cases hlt2 : (j : Int) < u1 % 5
        · go_wp2_with (at_builtin; (refine Kd.R_append k46 (w0 := wr) (q + 2) rfl (.tmp 46) (.tmp 52) 38 46 (.agg #[(.int .i64 0), (.int .i64 0), (.string ⟨#[]⟩)]) 32 rfl Try.underlying38 pinfo46 rfl (by decide) (by decide) (.slice A2 (consts j).length cp2) (consts j) ⟨3 + 2 * ((j : Int) % 2), 0, ⟨#[]⟩⟩ [.int .i64 (3 + 2 * ((j : Int) % 2)), .int .i64 0, .string ⟨#[]⟩] (fun i => q + 2 ≤ i) (fun _ => False) ?aS ?aX (k46_mkM _ _ _ _) (fun _ hk => hk.elim) (fun _ hk => by have := HS.out.1.1; have := HA1.out.sz; omega) HS.out.2.2 (Below.refl _ _) ?aZ ?aL ?_; (case aS => simp [Act.eval]); (case aX => simp [Act.eval]); (case aZ => have := HS.out.1.1; have := HA1.out.sz; omega); (case aL => rw [consts_len]; have := h1; omega); intro v1 w1 HN1 hb1 hg1 hat1; replace HN1 := Aside0.mk HN1; replace hb1 := Aside0.mk hb1; clear hg1 hat1; obtain ⟨A1, cp1, rfl⟩ := Kd.R_slice HN1.out; have hp1 := (hb1.out.block (q + 1) (by omega)).trans HS.out.2.1; have c1 : w1.cell? ⟨q + 1, 3, none⟩ = some (.slice A2 (consts j).length cp2) := (blk_cell hp1 3).trans rfl; have f1 : w1.frozen? ⟨q + 1, 3, none⟩ = false := blk_frozen hp1 3; clear hp1))
          have HS2 := Aside0.mk (st2_step HA1.out.sz HS.out hb1.out HN1.out)
          have HBr2 := Aside0.mk (bel_set (u := .slice A1 (consts j ++ [(⟨3 + 2 * ((j : Int) % 2), 0, ⟨#[]⟩⟩ : S46)]).length cp1) (j := 3) HBr.out hb1.out (show g ≤ q + 2 by omega) (show g ≤ q + 1 by omega))
          clear c1 f1 HN1 hb1 HS
          go_wp2_with fail
          go_roundw
          case rel => exact ⟨j + 1, by simp, ⟨by omega⟩, by simpa using HBr2, _, by simpa using HS2⟩
          case measure => simp [intOf]; omega
        · have hj2 : (j : Int) = u1 % 5 := by have := hj.out; omega
          have hgq := HA1.out.hq
          have hz2 : q + 2 ≤ wr.heap.size := by have := HS.out.1.1; have := HA1.out.sz; omega
          have HS2 := HS
          obtain ⟨W2, hW2⟩ : ∃ W2, W2 = wr := ⟨_, rfl⟩
          rw [← hW2] at HS2
          clear hj
          go_wp2_with fail
          go_loopw [10] (fun v10 wr' => ∃ i : Nat, v10 = .int .i64 i ∧ Aside0 (i ≤ u2 % 5) ∧ Aside0 (Below g w wr') ∧ ∃ v, Aside0 (St3 W2 q i (u0 % 30) (.slice A2 (consts j).length cp2) v wr')) (fun v _ => 5 - (intOf v).toNat)
          case atStart =>
            exact ⟨0, rfl, ⟨by omega⟩, HBr, .slice none 0 0, ⟨by rw [hW2]; exact ⟨⟨Nat.le_refl _, fun _ _ _ => rfl⟩, HS.out.2.1, Kd.R_nil _ _ _ _ _⟩⟩⟩
          case round =>
            rw [← hW2] at hz2
            clear HS c1 cpc hW2 HBr
            obtain ⟨i, rfl, hi, HBr, v, HS⟩ := hrel
            obtain ⟨A3, cp3, rfl⟩ := Kd.R_slice HS.out.2.2
            have c2 : wr.cell? ⟨g + 1, 2, none⟩ = some (.int .u8 u2) := (blk_cell (kept_at HS.out.1 (kept_at HS2.out.1 HA1.out.kl (by omega)) (by omega)) 2).trans rfl
            have cpu : wr.cell? ⟨q + 1, 2, none⟩ = some (.slice A3 (ups i).length cp3) := (blk_cell HS.out.2.1 2).trans rfl
            by_cases hlt3 : (i : Int) < u2 % 5
            · go_wp2_with (at_builtin; (refine Kd.R_append k48 (w0 := wr) W2.heap.size rfl (.tmp 64) (.tmp 67) 37 48 (.agg #[(.bool false), (.int .i64 0)]) 16 rfl Try.underlying37 pinfo48 rfl (by decide) (by decide) (.slice A3 (ups i).length cp3) (ups i) ⟨false, (i : Int)⟩ [.bool false, .int .i64 (i : Int)] (fun i => W2.heap.size ≤ i) (fun _ => False) ?aS ?aX (k48_mkM _ _ _ _) (fun _ hk => hk.elim) (fun _ hk => by have := HS.out.1.1; omega) HS.out.2.2 (Below.refl _ _) HS.out.1.1 ?aL ?_; (case aS => simp [Act.eval]); (case aX => simp [Act.eval]); (case aL => rw [ups_len]; have := h2; omega); intro v1 w1 HN1 hb1 hg1 hat1; replace HN1 := Aside0.mk HN1; replace hb1 := Aside0.mk hb1; clear hg1 hat1; obtain ⟨A1, cp1, rfl⟩ := Kd.R_slice HN1.out; have hp1 := (hb1.out.block (q + 1) (by omega)).trans HS.out.2.1; have c1 : w1.cell? ⟨q + 1, 2, none⟩ = some (.slice A3 (ups i).length cp3) := (blk_cell hp1 2).trans rfl; have f1 : w1.frozen? ⟨q + 1, 2, none⟩ = false := blk_frozen hp1 2; clear hp1))
              have HS3 := Aside0.mk (st3_step hz2 HS.out hb1.out HN1.out)
              have HBr2 := Aside0.mk (bel_set (u := .slice A1 (ups i ++ [(⟨false, (i : Int)⟩ : S48)]).length cp1) (j := 2) HBr.out hb1.out (show g ≤ W2.heap.size by omega) (show g ≤ q + 1 by omega))
              clear c1 f1 HN1 hb1 HS
              go_wp2_with fail
              go_roundw
              case rel => exact ⟨i + 1, by simp, ⟨by omega⟩, by simpa using HBr2, _, by simpa using HS3⟩
              case measure => simp [intOf]; omega
            · have hi2 : (i : Int) = u2 % 5 := by have := hi.out; omega
              have HF := Aside0.mk (fin_of HA1.out HS2.out HS.out)
              have HBf := HBr
              clear hi HS HS2 HA1 HBr cpu
              have cpp : wr.cell? ⟨g + 1 + 1 + 1, 0, none⟩ = some (.slice A (List.replicate k P0).length cp) := (blk_cell HF.out.kp 0).trans rfl
              have cq0 : wr.cell? ⟨q + 1, 0, none⟩ = some (.int .i64 0) := (blk_cell HF.out.kq 0).trans rfl
              have cq1 : wr.cell? ⟨q + 1, 1, none⟩ = some (.int .i64 (u0 % 30)) := (blk_cell HF.out.kq 1).trans rfl
              have cq2 : wr.cell? ⟨q + 1, 2, none⟩ = some (.slice A3 (ups i).length cp3) := (blk_cell HF.out.kq 2).trans rfl
              have cq3 : wr.cell? ⟨q + 1, 3, none⟩ = some (.slice A2 (consts j).length cp2) := (blk_cell HF.out.kq 3).trans rfl
              have cq4 : wr.cell? ⟨q + 1, 4, none⟩ = some (.slice (some ⟨q, 0, none⟩) 2 2) := (blk_cell HF.out.kq 4).trans rfl
              go_wp2_with (at_builtin; (refine Kd.N_append k41 (w0 := wr) (g + 5) rfl (.tmp 71) (.tmp 73) 26 41 (.agg #[(.int .i64 0), (.int .i64 0), (.slice none 0 0), (.slice none 0 0), (.slice none 0 0)]) 88 rfl Try.underlying26 info41 rfl (by decide) (by decide) (.slice A (List.replicate k P0).length cp) (List.replicate k P0) (PX a b c (u0 % 30) i j) [.int .i64 0, .int .i64 (u0 % 30), .slice A3 (ups i).length cp3, .slice A2 (consts j).length cp2, .slice (some ⟨q, 0, none⟩) 2 2] (fun i => i = g + 4 ∨ g + 5 ≤ i) (fun i => q ≤ i) ?aS ?aX HF.out.fx ?aK (fun _ hk => by have := HF.out.sz; omega) HF.out.np (Below.refl _ _) ?aZ ?aL ?_; (case aS => simp [Act.eval]); (case aX => simp [Act.eval]); (case aK => exact fun x hx => ⟨.inr (by omega), fun e => by have := HF.out.lt x e.symm; omega⟩); (case aZ => have := HF.out.sz; omega); (case aL => simp; have := h3; omega); intro v1 w1 HN1 hb1 hg1 hat1; replace HN1 := Aside0.mk HN1; replace hb1 := Aside0.mk hb1; clear hg1 hat1; obtain ⟨A1, cp1, rfl⟩ := Kd.N_slice HN1.out; have hp1 := (hb1.out.block (g + 3) (by omega)).trans HF.out.kp; have hr1 := (hb1.out.block (g + 2) (by omega)).trans HF.out.kr; have c1 : w1.cell? ⟨g + 1 + 1 + 1, 0, none⟩ = some (.slice A (List.replicate k P0).length cp) := (blk_cell hp1 0).trans rfl; have f1 : w1.frozen? ⟨g + 1 + 1 + 1, 0, none⟩ = false := blk_frozen hp1 0; have c22 : w1.cell? ⟨g + 1 + 1, 0, none⟩ = some (.slice none 0 0) := (blk_cell hr1 0).trans rfl; have f2 : w1.frozen? ⟨g + 1 + 1, 0, none⟩ = false := blk_frozen hr1 0; have HP1 := Aside0.mk hp1; have HR1 := Aside0.mk hr1; clear hp1 hr1))
              have hpl : PL = List.replicate k P0 ++ [PX a b c (u0 % 30) i j] := by
                rw [← HPL.out]; unfold progL
                rw [show (u3 % 3).toNat + 1 = k from by omega, show (u2 % 5).toNat = i from by omega, show (u1 % 5).toNat = j from by omega]
              have HBe := Aside0.mk (show Below g w ((w1.setCell ⟨g + 1 + 1 + 1, 0, none⟩ (.slice A1 (k + 1) cp1)).setCell ⟨g + 1 + 1, 0, none⟩ (.slice A1 (k + 1) cp1)) from
                Below.setCell (bel_set HBf.out hb1.out (by omega) (show g ≤ g + 3 by omega)) (show g ≤ g + 2 by omega) _)
              have hlen : (List.replicate k P0 ++ [PX a b c (u0 % 30) i j]).length = k + 1 := by simp
              have HNf := Aside0.mk (Kd.N_far (p := ⟨g + 1 + 1, 0, none⟩) (Kd.N_far (p := ⟨g + 1 + 1 + 1, 0, none⟩) HN1.out (fun x hx => by show x ≠ g + 3; omega) (.slice A1 (k + 1) cp1)) (fun x hx => by show x ≠ g + 2; omega) (.slice A1 (k + 1) cp1))
              refine bodyPost_ret (results_cell_row rfl _ _ (g + 1 + 1) 28 #[.slice A1 (k + 1) cp1] (0, 0) _ rfl (blk_put (blk_far HR1.out (show g + 2 ≠ g + 3 by omega) _) 0 _ rfl) Try.underlying28 rfl (by kernel_rfl)) rfl ?_
              have hr := Kd.N_reads' HNf.out
              rw [hlen] at hr
              subst hpl
              rw [hlen]
              exact ⟨A1, cp1, rfl, hr.2.1, hr.2.2, by rw [HGW.out]; exact HBe.out⟩
end Go.Proofs.Ytpdcedmnkkiekaa.G
end
