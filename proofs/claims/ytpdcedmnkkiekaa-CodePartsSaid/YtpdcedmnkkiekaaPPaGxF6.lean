import Derived.Deep.RegionLaw
import Derived.WalkSpells
import Derived.Shelf.Abstract
import Derived.Test.YtpdcedmnkkiekaaPPaCA
import Derived.Lib.Hide
set_option linter.unusedVariables false
set_option linter.unusedSimpArgs false
section
namespace Go.Proofs.Ytpdcedmnkkiekaa.G
open Go.Shelf Go.RowKit Go.Proofs.YtpdcedmnkkiekaaW.PrintWords Go.Proofs.YtpdcedmnkkiekaaW.PrintLast Go.Proofs.YtpdcedmnkkiekaaW.PrintMore
set_option linter.unusedVariables false
set_option linter.unusedSimpArgs false
theorem field28 (d n cp : Nat) (w : World) : (Instr.field 28 (.agg #[.slice (some ⟨d, 0, none⟩) n cp]) 0).run Try.prog w = .ok (.slice (some ⟨d, 0, none⟩) n cp) w := by kernel_rfl
def S14 (wo : World) (Av : Option Addr) (cv k : Nat) (w' : World) : Prop := Below wo.heap.size wo w' ∧ w'.heap[wo.heap.size]? = some (.cells #[.slice Av (List.replicate k P0).length cv] 28 (0, 0)) ∧
  Kd.N k41 41 w' (wo.heap.size + 1) (fun x => wo.heap.size + 1 ≤ x) (.slice Av (List.replicate k P0).length cv) (List.replicate k P0)
theorem S14.below {wo w1 w2 : World} {Av : Option Addr} {cv k : Nat} (h : S14 wo Av cv k w1) (hb : Below w1.heap.size w1 w2) : S14 wo Av cv k w2 :=
  ⟨h.1.trans (hb.mono h.1.size), blk_below h.2.1 hb, Kd.N_below h.2.2 hb⟩
theorem S14.below2 {wo w1 w2 : World} {Av : Option Addr} {cv k : Nat} (hb : Below w1.heap.size w1 w2) (h : S14 wo Av cv k w1) : S14 wo Av cv k w2 := h.below hb
theorem S14.next {wo W w10 : World} {Av A10 : Option Addr} {cv k cp10 : Nat} (h : S14 wo Av cv k W) (hb : Below (wo.heap.size + 1) W w10)
    (hN : Kd.N k41 41 w10 (wo.heap.size + 1) (fun x => wo.heap.size + 1 ≤ x) (.slice A10 (List.replicate k P0 ++ [P0]).length cp10) (List.replicate k P0 ++ [P0])) :
    S14 wo A10 cp10 (k + 1) (w10.setCell ⟨wo.heap.size, 0, none⟩ (.slice A10 (k + 1) cp10)) := by
  have e : List.replicate k P0 ++ [P0] = List.replicate (k + 1) P0 := (List.replicate_succ' ..).symm
  rw [e] at hN
  have e2 : (List.replicate (k + 1) P0).length = k + 1 := List.length_replicate ..
  have hk10 := (hb.block wo.heap.size (Nat.lt_succ_self _)).trans h.2.1
  refine ⟨bel_set h.1 hb (Nat.le_succ _) (Nat.le_refl _), ?_, ?_⟩
  · rw [e2]; exact blk_set hk10 0 _
  · exact Kd.N_far hN (p := ⟨wo.heap.size, 0, none⟩) (fun x hx => by show x ≠ wo.heap.size; omega) _
theorem S14.size {wo w1 : World} {Av : Option Addr} {cv k : Nat} (h : S14 wo Av cv k w1) : wo.heap.size + 1 ≤ w1.heap.size := blk_lt h.2.1
theorem S14.to {wo w1 : World} {Av : Option Addr} {cv k : Nat} (h : S14 wo Av cv k w1) : w1.cell? ⟨wo.heap.size, 0, none⟩ = some (.slice Av (List.replicate k P0).length cv) ∧ Aside0 (S14 wo Av cv k w1) := ⟨(blk_cell h.2.1 0).trans rfl, ⟨h⟩⟩
def qL (l : List S41) (i : Nat) : List S41 := (List.replicate l.length P0).set i (rd_T41 l i)
theorem q_reads {wr W : World} {base n m cv g i : Nat} {ok : Nat → Prop} (hN : Kd.N k41 41 wr base ok (.slice (some ⟨g, 0, none⟩) m cv) (List.replicate n P0)) (hi : i < n) (x : S41) (us : List Value) (hus : us.length = 5)
    (hW : W = wr.setCells g (i * 5) us) (hK : k41.K W x us) : Kd.C k41 W (some ⟨g, 0, none⟩) n ((List.replicate n P0).set i x) := by
  have hr := Kd.N_reads' hN
  have hm : m = n := by have := hr.1; simpa using this
  have hle : n ≤ 9223372036854775807 := by have := hr.2.2.2.1; simpa using this
  have hsz : k41.sz = 5 := rfl
  refine ⟨by simp, hle, fun _ => ⟨⟨g, 0, none⟩, rfl, fun j p hj => ?_⟩⟩
  have hjn : j < n := by have := (List.getElem?_eq_some_iff.1 hj).1; simpa using this
  obtain ⟨c, hcl, hfk, hcell, _⟩ := Kd.N_elem hN P0 (j : Int) (by omega) (by omega)
  simp only [Int.toNat_natCast, hsz] at hcell hcl hfk
  by_cases hji : j = i
  · subst hji
    obtain rfl : x = p := by simpa [hjn] using hj
    refine ⟨us, hus, hK, fun t u ht => ?_⟩
    obtain ⟨ht1, ht2⟩ := List.getElem?_eq_some_iff.1 ht
    rw [hW, hsz, add_at, Nat.zero_add, World.cell?_setCells_in g us (j * 5) wr (fun s hs => by rw [hcell s _ (List.getElem?_eq_getElem (by omega))]; rfl) t ht1, ht2]
  · obtain rfl : P0 = p := by
      rw [List.getElem?_set_ne (fun e => hji e.symm), List.getElem?_replicate, if_pos hjn] at hj
      exact Option.some.inj hj
    refine ⟨c, hcl, ?_, fun t u ht => ?_⟩
    · have h2 := Kd.FK_now (Kd.FK_step hfk (W1 := W) (fun k hk _ => by rw [hW]; exact setCells_far us (i * 5) k hk.2))
      rwa [List.getD_eq_getElem?_getD, List.getElem?_replicate, if_pos hjn] at h2
    · have ht1 := (List.getElem?_eq_some_iff.1 ht).1
      rw [hsz, add_at, Nat.zero_add, hW, World.cell?_setCells_out g us (i * 5) wr _ (fun _ _ => by show j * 5 + t < i * 5 ∨ i * 5 + us.length ≤ j * 5 + t; omega)]
      exact hcell t u ht
def S15 (w wo : World) (Ap : Option Addr) (c : Nat) (l : List S41) (i gq cv : Nat) (W : World) : Prop :=
  Below w.heap.size w W ∧ W.heap[wo.heap.size]? = some (.cells #[.slice (some ⟨gq, 0, none⟩) l.length cv] 28 (0, 0)) ∧ W.heap[w.heap.size]? = some (.cells #[.slice Ap l.length c] 28 (0, 0)) ∧
  Kd.C k41 W (some ⟨gq, 0, none⟩) l.length (qL l i) ∧ l.length ≤ cv
theorem below_setCells {w W : World} {B g : Nat} (hg : B ≤ g) : ∀ (us : List Value) (o : Nat) {W : World}, Below B w W → Below B w (W.setCells g o us)
  | [], _, _, h => h
  | u :: us, o, _, h => below_setCells hg (W := W) us (o + 1) (h.setCell hg u)
theorem after15 {w wo wr : World} {l : List S41} {i gq cv c : Nat} {Ap : Option Addr} (hS : S14 wo (some ⟨gq, 0, none⟩) cv l.length wr) (hbw : Below w.heap.size w wr) (hwo : Below w.heap.size w wo) (hi : i < l.length)
    (hP : wr.heap[w.heap.size]? = some (.cells #[.slice Ap l.length c] 28 (0, 0))) (hPo : w.heap.size < wo.heap.size) {u0 u1 u2 u3 u4 : Value} (hK : k41.K w (rd_T41 l i) [u0, u1, u2, u3, u4]) {W : World}
    (hW : W = (wr.setCells gq (i * 5) [u0, u1, u2, u3, u4]).drew) :
    S15 w wo Ap c l i gq cv W := by
  have hg : wo.heap.size + 1 ≤ gq := Kd.N_base hS.2.2 gq rfl
  have hb : Below w.heap.size w (wr.setCells gq (i * 5) [u0, u1, u2, u3, u4]) := below_setCells (w := w) (W := w) (by omega) _ _ hbw
  have hq := q_reads hS.2.2 hi (rd_T41 l i) [u0, u1, u2, u3, u4] rfl rfl (k41.K_below hb hK)
  have hlen := (Kd.N_reads' hS.2.2).2.1
  have e1 := setCells_far [u0, u1, u2, u3, u4] (i * 5) (w := wr) (g := gq) wo.heap.size (by omega)
  have e2 := setCells_far [u0, u1, u2, u3, u4] (i * 5) (w := wr) (g := gq) w.heap.size (by omega)
  have h0 := hS.2.1
  rw [List.length_replicate] at h0 hlen
  generalize wr.setCells gq (i * 5) [u0, u1, u2, u3, u4] = W0 at *
  subst hW
  exact ⟨below_drew hb, e1.trans h0, e2.trans hP, Kd.C_below hq (below_drew (Below.refl _ _)), hlen⟩
def allB (rs : Nat → Int) (i : Nat) : Bool := decide (∀ j, j < i → rs j = 0)
theorem allB_zero (rs : Nat → Int) : allB rs 0 = true := by simp [allB]
theorem allB_succ (rs : Nat → Int) (i : Nat) : allB rs (i + 1) = (allB rs i && (rs i == 0)) := by
  unfold allB
  rw [Bool.eq_iff_iff]
  simp only [decide_eq_true_eq, Bool.and_eq_true, beq_iff_eq]
  exact ⟨fun h => ⟨fun j hj => h j (by omega), h i (by omega)⟩, fun h j hj => by
    rcases Nat.lt_succ_iff_lt_or_eq.1 hj with e | e
    · exact h.1 j e
    · exact e ▸ h.2⟩
theorem check_n {w : World} {A : Option Addr} {n c : Nat} {xs : List S41} {r : Int} (k : Nat) (h : Kd.C k41 w A n xs) (hn : n ≤ c) (hf : code_Check.f k xs = some r) :
    Calls Try.prog 15 #[.agg #[.slice A n c]] w fun e w' => e = .returned (.int .i64 r) ∧ Below w.heap.size w w' := by
  obtain rfl : xs.length = n := h.1
  exact code_Check.calls k A c xs r w h hn hf
set_option maxHeartbeats 4000000 in
set_option maxRecDepth 100000 in
theorem parts_any (A : Option Addr) (c : Nat) (l : List S41) (w : World) (hr : Kd.C k41 w A l.length l) (hc : l.length ≤ c) (kk : Nat) (r0 : Int) (rs : Nat → Int)
    (h : l.length = 0 ∨ 10 < l.length ∨ code_Check.f kk l = some r0 ∧ (∀ i, i < l.length → code_Check.f kk (qL l i) = some (rs i)) ∧ allB rs l.length = (r0 == 0)) :
    Calls Try.prog 6 #[.agg #[.slice A l.length c]] w fun e w' => e = .returned (.bool true) ∧ Below w.heap.size w w' := by
  have hF28 := field28
  have hu28 := Try.underlying28
  have hu41 := Try.underlying41
  have hu26 := Try.underlying26
  have HR := Aside0.mk hr
  have HC := Aside0.mk hc
  have H := Aside0.mk h
  clear hr hc h
  go_enter Try.func6, Try.ntmps6
  go_wp2_with fail
  refine (tallowlaw20_works.calls true _ rfl).mono ?_
  rintro e w1 ⟨rfl, hb⟩
  have hp := blk_below (blk_new w (Obj.cells #[Value.slice A l.length c] 28)) hb
  have HB := Aside0.mk (below_step (below_alloc (Below.refl _ _) _) hb)
  clear hb
  have HP := Aside0.mk hp
  clear hp
  have cp0 : w1.cell? ⟨w.heap.size, 0, none⟩ = some (.slice A l.length c) := (blk_cell HP.out 0).trans rfl
  by_cases hn0 : (l.length : Int) = 0
  · have b0 : ((l.length : Int) == 0) = true := beq_iff_eq.mpr hn0
    go_wp2_with fail
    go_ret
    exact ⟨rfl, by repeat (first | exact HB.out | apply pw_below_drewN | apply below_drew1)⟩
  · have b0 : ((l.length : Int) == 0) = false := beq_eq_false_iff_ne.mpr hn0
    by_cases hn1 : 10 < (l.length : Int)
    · have b1 : decide (10 < (l.length : Int)) = true := decide_eq_true hn1
      go_wp2_with fail
      go_ret
      exact ⟨rfl, by repeat (first | exact HB.out | apply pw_below_drewN | apply below_drew1)⟩
    · have b1 : decide (10 < (l.length : Int)) = false := decide_eq_false hn1
      have hH : code_Check.f kk l = some r0 ∧ (∀ i, i < l.length → code_Check.f kk (qL l i) = some (rs i)) ∧ allB rs l.length = (r0 == 0) := by
        rcases H.out with h | h | h
        · omega
        · omega
        · exact h
      have H0 := Aside0.mk hH.1
      have HQ := Aside0.mk hH.2.1
      have HE := Aside0.mk hH.2.2
      clear hH H
      go_wp2_with fail
      clear cp0
      go_loopw [4, 5] (fun v4 v5 wr => ∃ i : Nat, v5 = .int .i64 i ∧ i ≤ l.length ∧ v4 = .bool (allB rs i) ∧ Aside0 (wr.heap[w.heap.size]? = some (.cells #[.slice A l.length c] 28 (0, 0))) ∧ Aside0 (Below w.heap.size w wr)) (fun _ v5 _ => l.length - (intOf v5).toNat)
      case atStart => exact ⟨0, rfl, Nat.zero_le _, by rw [allB_zero], HP, HB⟩
      case round =>
        clear HP HB
        obtain ⟨i, rfl, hi, rfl, HP, HB⟩ := hrel
        by_cases hlt : (i : Int) < (l.length : Int)
        · go_wp2_with fail
          obtain ⟨wo, hwo⟩ : ∃ x, x = wr := ⟨_, rfl⟩
          rw [← hwo] at HP HB ⊢
          clear hwo
          go_loopw [7] (fun v7 wi => ∃ k : Nat, v7 = .int .i64 k ∧ k ≤ l.length ∧ ∃ Av cv, Aside0 (S14 wo Av cv k wi)) (fun v7 _ => l.length - (intOf v7).toNat)
          case atStart => exact ⟨0, rfl, Nat.zero_le _, none, 0, ⟨below_alloc (Below.refl _ _) _, blk_new' rfl, Kd.N_nil _ _ _ _ _⟩⟩
          case round =>
            obtain ⟨k, rfl, hk, Av, cv, HS⟩ := hrel
            by_cases hlk : (k : Int) < (l.length : Int)
            · go_wp2_with fail
              have hwr : wo.heap.size + 1 ≤ wr.heap.size := S14.size HS.out
              have hvb : ∀ x, (Value.slice Av (List.replicate k P0).length cv).ownBlock = some x → x < wr.heap.size := Kd.N_lt HS.out.2.2
              have cv0 : wr.cell? ⟨wo.heap.size, 0, none⟩ = some (.slice Av (List.replicate k P0).length cv) := (S14.to HS.out).1
              have cva : ∀ o, (wr.alloc o).cell? ⟨wo.heap.size, 0, none⟩ = some (.slice Av (List.replicate k P0).length cv) := fun o => (S14.to (S14.below HS.out (below_alloc (Below.refl _ _) o))).1
              have cvb : ∀ o, (wr.drew.alloc o).cell? ⟨wo.heap.size, 0, none⟩ = some (.slice Av (List.replicate k P0).length cv) := fun o => (S14.to (S14.below HS.out (below_alloc (below_drew (Below.refl _ _)) o))).1
              go_region_law
                (first
                  | (refine goes_ (f := 20) (N := some 34) Try.func20 (by kernel_rfl) rfl #[.int .i64 1, .slice (some ⟨wr.heap.size, 0, none⟩) 2 2] rfl rfl rfl (by simp [Act.eval]) ?_; refine (one_P0 _ _ wr.heap.size (by simp) (by simp) (by first | exact blk_new _ _ | (apply blk_drew; exact blk_new _ _))).mono ?_; rintro e w8 ⟨d, cp, A2, c2, A3, c3, A4, c4, rfl, hd, x0, x1, x2, x3, x4, hfk, hb8⟩; refine ⟨_, rfl, ?_⟩; have hc8 : w8.cell? ⟨wo.heap.size, 0, none⟩ = some (.slice Av (List.replicate k P0).length cv) := (S14.to (S14.below2 hb8 (S14.below HS.out (by (repeat (first | exact Below.refl _ _ | apply below_drew | apply below_alloc)); done)))).1; have hc8a : ∀ o, (w8.alloc o).cell? ⟨wo.heap.size, 0, none⟩ = some (.slice Av (List.replicate k P0).length cv) := fun o => (S14.to (S14.below (S14.below2 hb8 (S14.below HS.out (by (repeat (first | exact Below.refl _ _ | apply below_drew | apply below_alloc)); done))) (below_alloc (Below.refl _ _) o))).1)
                  | (refine N_append_lies k41 rfl (.tmp 30) (.tmp 38) 26 41 (.agg #[(.int .i64 0), (.int .i64 0), (.slice none 0 0), (.slice none 0 0), (.slice none 0 0)]) 88 rfl Try.underlying26 info41 rfl (by decide) (wo.heap.size + 1) (.slice Av (List.replicate k P0).length cv) (List.replicate k P0) P0 [.int .i64 0, .int .i64 1, .slice A2 0 c2, .slice A3 0 c3, .slice A4 2 c4] (fun x => wo.heap.size + 1 ≤ x) (fun x => wr.heap.size ≤ x) _ (by simp [Act.eval]) (by simp [Act.eval]; rfl) (by first | exact blk_new _ _ | (apply blk_drew; exact blk_new _ _)) (by refine Kd.FK_below hfk ?_; (repeat (first | exact Below.refl _ _ | apply below_drew | apply below_alloc)); done) (fun x hx => ⟨Nat.le_trans hwr hx, fun e => by have := hvb x e.symm; omega⟩) (fun x hx => by have := hb8.size; simp at *; omega) ((S14.below (S14.below2 hb8 (S14.below HS.out (by (repeat (first | exact Below.refl _ _ | apply below_drew | apply below_alloc)); done))) (by (repeat (first | exact Below.refl _ _ | apply below_drew | apply below_alloc)); done)).2.2) (S14.size (S14.below (S14.below2 hb8 (S14.below HS.out (by (repeat (first | exact Below.refl _ _ | apply below_drew | apply below_alloc)); done))) (by (repeat (first | exact Below.refl _ _ | apply below_drew | apply below_alloc)); done))) (by simp [maxLen]; omega) (by simp; omega) ?_; intro v10 w10 HN10 hg10 hb10; have hk10 := (hb10.block wo.heap.size (Nat.lt_succ_self _)).trans (S14.below (S14.below2 hb8 (S14.below HS.out (by (repeat (first | exact Below.refl _ _ | apply below_drew | apply below_alloc)); done))) (by (repeat (first | exact Below.refl _ _ | apply below_drew | apply below_alloc)); done)).2.1; have hc10 : w10.cell? ⟨wo.heap.size, 0, none⟩ = some (.slice Av (List.replicate k P0).length cv) := (blk_cell hk10 0).trans rfl; have f10 : w10.frozen? ⟨wo.heap.size, 0, none⟩ = false := blk_frozen hk10 0; obtain ⟨A10, cp10, rfl⟩ := Kd.N_slice HN10; have HE10 := Aside0.mk (S14.next (S14.below (S14.below2 hb8 (S14.below HS.out (by (repeat (first | exact Below.refl _ _ | apply below_drew | apply below_alloc)); done))) (by (repeat (first | exact Below.refl _ _ | apply below_drew | apply below_alloc)); done)) hb10 HN10)))
              all_goals
                go_wp2_with fail
                go_roundw
                case rel => exact ⟨k + 1, by simp, by omega, A10, cp10, HE10⟩
                case measure => simp [intOf]; omega
            · have hkn : k = l.length := by omega
              subst hkn
              go_wp2_with fail
              have cq0 : wr.cell? ⟨wo.heap.size, 0, none⟩ = some (.slice Av (List.replicate l.length P0).length cv) := (S14.to HS.out).1
              have hbw : Below w.heap.size w wr := HB.out.trans (HS.out.1.mono HB.out.size)
              have hpb := (HS.out.1.block w.heap.size (blk_lt HP.out)).trans HP.out
              have cpb : wr.cell? ⟨w.heap.size, 0, none⟩ = some (.slice A l.length c) := (blk_cell hpb 0).trans rfl
              have hlt' : i < l.length := by omega
              obtain ⟨ad, A2, c2, A3, c3, A4, c4, rfl, y0, y1, y2, y3, y4, l2, g2, l3, g3, l4, g4⟩ := at_T41 HR.out (i : Int) (by omega) (by exact_mod_cast hlt)
              have HK0 := Aside0.mk (k41_mk w (rd_T41 l (i : Int)) l2 g2 l3 g3 l4 g4)
              clear l2 g2 l3 g3 l4 g4
              replace y0 := Go.cell_later hbw y0
              replace y1 := Go.cell_later hbw y1
              replace y2 := Go.cell_later hbw y2
              replace y3 := Go.cell_later hbw y3
              replace y4 := Go.cell_later hbw y4
              obtain ⟨gq, cq, hvq, _, _, _⟩ := Kd.N_form HS.out.2.2 (by simp; omega)
              injection hvq with e1 e2 e3
              subst e1 e3
              obtain ⟨cs, hcl, hfk, hcell, hfro⟩ := Kd.N_elem HS.out.2.2 P0 (i : Int) (by omega) (by simp; omega)
              obtain ⟨B2, d2, B3, d3, B4, d4, rfl, _⟩ := k41_openF hfk
              have z0 := hcell 0 _ rfl
              have z1 := hcell 1 _ rfl
              have z2 := hcell 2 _ rfl
              have z3 := hcell 3 _ rfl
              have z4 := hcell 4 _ rfl
              have f0 := hfro 0
              have f1 := hfro 1
              have f2 := hfro 2
              have f3 := hfro 3
              have f4 := hfro 4
              simp only [Int.toNat_natCast, show k41.sz = 5 from rfl, Nat.add_zero] at y0 y1 y2 y3 y4 z0 z1 z2 z3 z4 f0 f1 f2 f3 f4
              go_region_law (fail)
              all_goals
                have H15 := Aside0.mk (after15 HS.out hbw HB.out hlt' hpb (blk_lt HP.out) HK0.out (W := (((((wr.setCell ⟨gq, i * 5, none⟩ (.int .i64 (rd_T41 l (i : Int)).f0)).setCell ⟨gq, i * 5 + 1, none⟩ (.int .i64 (rd_T41 l (i : Int)).f1)).setCell ⟨gq, i * 5 + 2, none⟩ (.slice A2 (rd_T41 l (i : Int)).f2.length c2)).setCell ⟨gq, i * 5 + 3, none⟩ (.slice A3 (rd_T41 l (i : Int)).f3.length c3)).setCell ⟨gq, i * 5 + 4, none⟩ (.slice A4 (rd_T41 l (i : Int)).f4.length c4)).drew) rfl)
                clear hcell hcl hfk hfro f0 f1 f2 f3 f4 z0 z1 z2 z3 z4 y0 y1 y2 y3 y4 cq0 cpb hpb hbw
                generalize (((((wr.setCell ⟨gq, i * 5, none⟩ _).setCell ⟨gq, i * 5 + 1, none⟩ _).setCell ⟨gq, i * 5 + 2, none⟩ _).setCell ⟨gq, i * 5 + 3, none⟩ _).setCell ⟨gq, i * 5 + 4, none⟩ _).drew = W15 at H15 ⊢
                have cq0 : W15.cell? ⟨wo.heap.size, 0, none⟩ = some (.slice (some ⟨gq, 0, none⟩) l.length cv) := (blk_cell H15.out.2.1 0).trans rfl
                have cpb : W15.cell? ⟨w.heap.size, 0, none⟩ = some (.slice (some ad) l.length c) := (blk_cell H15.out.2.2.1 0).trans rfl
                by_cases hall : allB rs i = true
                · go_wp2_with fail
                  refine (check_n kk H15.out.2.2.2.1 H15.out.2.2.2.2 (HQ.out i hlt')).mono ?_
                  rintro e w2 ⟨rfl, hb2⟩
                  have HP2 := Aside0.mk (blk_below H15.out.2.2.1 hb2)
                  have HB2 := Aside0.mk (H15.out.1.trans (hb2.mono H15.out.1.size))
                  clear hb2
                  go_wp2_with fail
                  go_roundw
                  case rel => exact ⟨i + 1, by simp, by omega, by rw [allB_succ, hall, Bool.true_and], HP2, HB2⟩
                  case measure => simp [intOf]; omega
                · have hall2 : allB rs i = false := by simpa using hall
                  clear hall
                  go_wp2_with fail
                  go_roundw
                  case rel => exact ⟨i + 1, by simp, by omega, by rw [allB_succ, hall2]; rfl, ⟨H15.out.2.2.1⟩, ⟨H15.out.1⟩⟩
                  case measure => simp [intOf]; omega
        · have hil : i = l.length := by omega
          subst hil
          have cpb : wr.cell? ⟨w.heap.size, 0, none⟩ = some (.slice A l.length c) := (blk_cell HP.out 0).trans rfl
          by_cases hr : r0 = 0
          · have hb0 : (r0 == 0) = true := by simpa using hr
            have HE2 : allB rs l.length = true := HE.out.trans hb0
            go_wp2_with fail
            refine (check_n kk (Kd.C_below HR.out HB.out) HC.out H0.out).mono ?_
            rintro e w2 ⟨rfl, hb2⟩
            have HB2 := Aside0.mk (HB.out.trans (hb2.mono HB.out.size))
            clear hb2
            go_wp2_with fail
            go_ret
            exact ⟨rfl, HB2.out⟩
          · have hb0 : (r0 == 0) = false := by simpa using hr
            have HE2 : allB rs l.length = false := HE.out.trans hb0
            go_wp2_with fail
            refine (check_n kk (Kd.C_below HR.out HB.out) HC.out H0.out).mono ?_
            rintro e w2 ⟨rfl, hb2⟩
            have HB2 := Aside0.mk (HB.out.trans (hb2.mono HB.out.size))
            clear hb2
            go_wp2_with fail
            go_ret
            exact ⟨rfl, HB2.out⟩
def tallowlaw20_CodeParts.f (k : Nat) (l : List S41) : Option Bool :=
  if l.length = 0 ∨ 10 < l.length then some true else
  (code_Check.f k l).bind fun r0 =>
    if (((List.range l.length).all fun i => (code_Check.f k (qL l i)).isSome) = true ∧ allB (fun i => (code_Check.f k (qL l i)).getD 1) l.length = (r0 == 0)) then some true else none
theorem tallowlaw20_CodeParts.calls (k : Nat) (A0_0 : Option Addr) (c0_0 : Nat) (l0_0 : List S41) (r : Bool) (w : World) (hr0_0 : Kd.C k41 w A0_0 l0_0.length l0_0) (hc0_0 : l0_0.length ≤ c0_0) (h : tallowlaw20_CodeParts.f k l0_0 = some r) :
    Calls Try.prog 6 #[.agg #[.slice A0_0 l0_0.length c0_0]] w fun e w' => e = .returned (.bool r) ∧ Below w.heap.size w w' := by
  unfold tallowlaw20_CodeParts.f at h
  by_cases hg : l0_0.length = 0 ∨ 10 < l0_0.length
  · rw [if_pos hg] at h
    injection h with h
    subst h
    exact parts_any A0_0 c0_0 l0_0 w hr0_0 hc0_0 k 0 (fun _ => 0) (hg.elim .inl (fun e => .inr (.inl e)))
  · rw [if_neg hg] at h
    obtain ⟨r0, h0, h⟩ := Option.bind_eq_some_iff.1 h
    by_cases hc : (((List.range l0_0.length).all fun i => (code_Check.f k (qL l0_0 i)).isSome) = true ∧ allB (fun i => (code_Check.f k (qL l0_0 i)).getD 1) l0_0.length = (r0 == 0))
    · rw [if_pos hc] at h
      injection h with h
      subst h
      refine parts_any A0_0 c0_0 l0_0 w hr0_0 hc0_0 k r0 (fun i => (code_Check.f k (qL l0_0 i)).getD 1) (.inr (.inr ⟨h0, fun i hi => ?_, hc.2⟩))
      have h1 := List.all_eq_true.1 hc.1 i (List.mem_range.2 hi)
      obtain ⟨x, hx⟩ := Option.isSome_iff_exists.1 h1
      show code_Check.f k (qL l0_0 i) = some ((code_Check.f k (qL l0_0 i)).getD 1)
      rw [hx]; rfl
    · rw [if_neg hc] at h
      cases h
end Go.Proofs.Ytpdcedmnkkiekaa.G
end
