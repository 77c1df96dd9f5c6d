import Derived.Test.YtkkgbbfojmnopaaPReGx0
set_option linter.unusedVariables false
set_option linter.unusedSimpArgs false
section
namespace Go.Proofs.Ytkkgbbfojmnopaa.G
open Go.RowKit Go.Proofs.YtkkgbbfojmnopaaW.PrintWords Go.Proofs.YtkkgbbfojmnopaaW.PrintLast Go.Proofs.YtkkgbbfojmnopaaW.PrintMore
attribute [local go_sem] q26q q27q q34q q35q q22q q23q q28q q29q
def IsS68 (w0 W : World) (g : Nat) (f0 : ByteArray) (f1 : Bool) : Prop := W.heap[g]? = some (.cells #[.string f0, .bool f1] 68 (0, 0)) ∧ w0.heap.size ≤ g
theorem IsS68.grown {w0 W : World} {g : Nat} {f0 : ByteArray} {f1 : Bool} {W1 : World} {row : Option Nat} (h : IsS68 w0 W g f0 f1) (hw : W.grownBy W1 row) (hne : some g ≠ row) : IsS68 w0 W1 g f0 f1 := by
 obtain ⟨hb, hg⟩ := h
 exact ⟨blk_grown hb hw hne, hg⟩
theorem IsS68.below {w0 W : World} {g : Nat} {f0 : ByteArray} {f1 : Bool} {W1 : World} (h : IsS68 w0 W g f0 f1) (hw : Below W.heap.size W W1) : IsS68 w0 W1 g f0 f1 := h.grown (grown_of_below hw none) (by simp)
theorem IsS68.alloc {w0 W : World} {g : Nat} {f0 : ByteArray} {f1 : Bool} (h : IsS68 w0 W g f0 f1) (o : Obj) : IsS68 w0 (W.alloc o) g f0 f1 := h.below (q4q (Below.refl _ _) o)
theorem IsS68.lt {w0 W : World} {g : Nat} {f0 : ByteArray} {f1 : Bool} (h : IsS68 w0 W g f0 f1) : g < W.heap.size := by
 obtain ⟨hb, hg⟩ := h
 exact q16q hb
theorem IsS68.ge {w0 W : World} {g : Nat} {f0 : ByteArray} {f1 : Bool} (h : IsS68 w0 W g f0 f1) : w0.heap.size ≤ g := by
 obtain ⟨hb, hg⟩ := h
 exact hg
theorem IsS68.far {w0 W : World} {g : Nat} {f0 : ByteArray} {f1 : Bool} {p : Addr} (h : IsS68 w0 W g f0 f1) (hne : g ≠ p.block) (u : Value) : IsS68 w0 (W.setCell p u) g f0 f1 := by
 obtain ⟨hb, hg⟩ := h
 exact ⟨q18q hb hne u, hg⟩
theorem cellS68_0 {W : World} {g : Nat} {f0 : ByteArray} {f1 : Bool} (h : W.heap[g]? = some (.cells #[.string f0, .bool f1] 68 (0, 0))) : W.cell? ⟨g, 0, none⟩ = some (.string f0) := (q3q h 0).trans rfl
theorem IsS68.set_0 {w0 W : World} {g : Nat} {f0 : ByteArray} {f1 : Bool} (h : IsS68 w0 W g f0 f1) (x : ByteArray) : IsS68 w0 (W.setCell ⟨g, 0, none⟩ (.string x)) g x f1 := by
 obtain ⟨hb, hg⟩ := h
 exact ⟨by simpa using blk_set hb 0 (.string x), hg⟩
theorem cellS68_1 {W : World} {g : Nat} {f0 : ByteArray} {f1 : Bool} (h : W.heap[g]? = some (.cells #[.string f0, .bool f1] 68 (0, 0))) : W.cell? ⟨g, 1, none⟩ = some (.bool f1) := (q3q h 1).trans rfl
theorem IsS68.set_1 {w0 W : World} {g : Nat} {f0 : ByteArray} {f1 : Bool} (h : IsS68 w0 W g f0 f1) (x : Bool) : IsS68 w0 (W.setCell ⟨g, 1, none⟩ (.bool x)) g f0 x := by
 obtain ⟨hb, hg⟩ := h
 exact ⟨by simpa using blk_set hb 1 (.bool x), hg⟩
theorem IsS68.new (w0 W : World) (f0 : ByteArray) (f1 : Bool) (hB : Below w0.heap.size w0 W) : IsS68 w0 (W.alloc (.cells #[.string f0, .bool f1] 68)) W.heap.size f0 f1 := ⟨by simpa using heap_alloc_new W _, hB.size⟩
mutual
def fQ4.l0 : Nat → Int → Int → ByteArray → Bool → Option (Int × ByteArray × Bool)
 | 0, _, _, _, _ => none
 | k + 1, x3, x4, x1000, x1001 => if x4 < (x1000.size : Int) then (if 0 ≤ x4 then (if x4 = 9 then (if (IntKind.u64.wrap (bt x1000 x4)) > 1 then (fQ4.j1 k x3 x4 (IntKind.u64.wrap (bt x1000 x4)) true x1000 x1001) else (fQ4.j1 k x3 x4 (IntKind.u64.wrap (bt x1000 x4)) (decide (x4 > 9)) x1000 x1001)) else (fQ4.j1 k x3 x4 (IntKind.u64.wrap (bt x1000 x4)) (decide (x4 > 9)) x1000 x1001)) else (none)) else (some (0, (⟨#[]⟩ : ByteArray), true))
def fQ4.j1 : Nat → Int → Int → Int → Bool → ByteArray → Bool → Option (Int × ByteArray × Bool)
 | 0, _, _, _, _, _, _ => none
 | k + 1, x3, x4, x5, x31, x1000, x1001 => if x31 = true then (some (0, (⟨#[]⟩ : ByteArray), true)) else (if 0 ≤ (wrap64 (7 * x4)) then (if x5 < 128 then (if x4 > 0 then (if x5 = 0 then (some (0, (⟨#[]⟩ : ByteArray), true)) else (if 0 ≤ (wrap64 (x4 + 1)) then (if (wrap64 (x4 + 1)) ≤ (x1000.size : Int) then (some (Go.bits .or .u64 x3 (shl .u64 (Int.tmod x5 128) (wrap64 (7 * x4))), x1000.extract ((wrap64 (x4 + 1)) : Int).toNat x1000.size, x1001)) else (none)) else (none))) else (if 0 ≤ (wrap64 (x4 + 1)) then (if (wrap64 (x4 + 1)) ≤ (x1000.size : Int) then (some (Go.bits .or .u64 x3 (shl .u64 (Int.tmod x5 128) (wrap64 (7 * x4))), x1000.extract ((wrap64 (x4 + 1)) : Int).toNat x1000.size, x1001)) else (none)) else (none))) else (fQ4.l0 k (Go.bits .or .u64 x3 (shl .u64 (Int.tmod x5 128) (wrap64 (7 * x4)))) (wrap64 (x4 + 1)) x1000 x1001)) else (none))
end
def fQ4.f (k : Nat) (s0_0 : ByteArray) (s0_1 : Bool) : Option (Int × ByteArray × Bool) := fQ4.l0 k 0 0 s0_0 s0_1
set_option maxHeartbeats 8000000 in
set_option maxRecDepth 100000 in
theorem fQ4.calls (k : Nat) (g : Nat) (s0_0 : ByteArray) (s0_1 : Bool) (r1 : Int) (r2 : ByteArray) (r3 : Bool) (w0 w : World) (hI : IsS68 w0 w g s0_0 s0_1) (hB : Below w0.heap.size w0 w) (h : fQ4.f k s0_0 s0_1 = some (r1, r2, r3)) :
  Calls Try.prog 50 #[.pointer (some ⟨g, 0, none⟩)] w fun e w' => e = .returned (.int .u64 r1) ∧ IsS68 w0 w' g r2 r3 ∧ Below w0.heap.size w0 w' ∧ KeepBut w w' g none := by
 have HI0 := Aq.mk hI
 have HK := Aq.mk (KeepBut.refl w g none)
 have HL := Aq.mk hB.size
 clear hI
 have HW0 := Aq.mk hB.size
 have HB := Aq.mk hB
 clear hB
 have H : (fQ4.l0 k 0 0 s0_0 s0_1) = some (r1, r2, r3) := h
 clear h
 have H' := Aq.mk H
 clear H
 go_enter Try.func50, Try.ntmps50
 go_wp2
 go_loopg [3, 4] k (fun kq v3 v4 w' => ∃ (x3_1 : Int) (x4_1 : Int) (x1000_1 : ByteArray), v3 = .int .u64 x3_1 ∧ v4 = .int .i64 x4_1 ∧ Aq (fQ4.l0 kq x3_1 x4_1 x1000_1 s0_1 = some (r1, r2, r3)) ∧ Aq (kq ≤ k) ∧ Aq (IsS68 w0 w' g x1000_1 s0_1) ∧ Aq (KeepBut w w' g none) ∧ Aq (Below w0.heap.size w0 w'))
 case atStart => exact ⟨(0), (0), (s0_0), (by first | rfl | (simp; done) | (simp [*]; done)), (by first | rfl | (simp; done) | (simp [*]; done)), H', ⟨Nat.le_refl _⟩, ⟨by repeat (first | (with_reducible first | exact HI0.out | apply IsS68.alloc | apply IsS68.drewN | apply IsS68.drew | apply IsS68.set_0 | apply IsS68.set_1) | exact HI0.out)⟩, ⟨by repeat (first | (with_reducible first | exact HK.out | apply KeepBut.set_ | apply keep_drewN | apply keep_drew | apply keep_alloc) | exact HK.out)⟩, ⟨by repeat (with_reducible first | exact HB.out | apply q4q | apply q0q | apply q2q | refine q5q ?_ (IsS68.ge HI0.out))⟩⟩
 case round =>
  clear H'
  obtain ⟨x3_1, x4_1, x1000_1, rfl, rfl, HA, HK1, HI0, HK, HB⟩ := hrel
  cases gk with
  | zero => exact absurd HA.out (by simp [fQ4.l0])
  | succ k1 =>
   have H := HA.out
   clear HA
   simp only [fQ4.l0] at H
   by_cases c2 : x4_1 < (x1000_1.size : Int)
   case neg =>
    rw [if_neg c2] at H
    have c2b0 : decide (x4_1 < (x1000_1.size : Int)) = false := decide_eq_false c2
    clear c2
    simp only [Option.some.injEq, Prod.mk.injEq] at H
    obtain ⟨rfl, rfl, rfl⟩ := H
    obtain ⟨HGz26, hgz26⟩ := HI0.out
    have hcz26_0 := cellS68_0 HGz26
    have hcz26_1 := cellS68_1 HGz26
    have hfz26_0 := q1q HGz26 0
    have hfz26_1 := q1q HGz26 1
    clear HGz26 hgz26
    go_wp2
    go_ret
    exact ⟨by first | rfl | (simp [*] <;> rfl), by repeat (first | (with_reducible first | exact HI0.out | apply IsS68.alloc | apply IsS68.drewN | apply IsS68.drew | apply IsS68.set_0 | apply IsS68.set_1) | exact HI0.out), by repeat (with_reducible first | exact HB.out | apply q4q | apply q0q | apply q2q | refine q5q ?_ (IsS68.ge HI0.out)), by repeat (first | (with_reducible first | exact HK.out | apply KeepBut.set_ | apply keep_drewN | apply keep_drew | apply keep_alloc) | exact HK.out)⟩
   rw [if_pos c2] at H
   have c2b0 : decide (x4_1 < (x1000_1.size : Int)) = true := decide_eq_true c2
   clear c2
   by_cases c3 : 0 ≤ x4_1
   case neg =>
    rw [if_neg c3] at H
    exact absurd H (by simp)
   rw [if_pos c3] at H
   have c3b0 : decide (0 ≤ x4_1) = true := decide_eq_true c3
   clear c3
   have HC5 := Aq.mk H
   clear H
   obtain ⟨HGz6, hgz6⟩ := HI0.out
   have hcz6_0 := cellS68_0 HGz6
   have hcz6_1 := cellS68_1 HGz6
   have hfz6_0 := q1q HGz6 0
   have hfz6_1 := q1q HGz6 1
   clear HGz6 hgz6
   have p4 : 0 ≤ (x4_1 : Int) := of_decide_eq_true (by first | (with_reducible assumption) | assumption)
   have q4 : x4_1 < (x1000_1.size : Int) := of_decide_eq_true (by first | (with_reducible assumption) | assumption)
   have hx4 := bt_at x1000_1 x4_1
   replace p4 := eq_true p4
   replace q4 := eq_true q4
   go_upto_region 6 with (fail)
   go_cut [31] (fun v31 wc => ∃ (kq : Nat) (x31_4 : Bool), v31 = .bool x31_4 ∧ Aq (fQ4.j1 kq x3_1 x4_1 (IntKind.u64.wrap (bt x1000_1 x4_1)) x31_4 x1000_1 s0_1 = some (r1, r2, r3)) ∧ Aq (kq ≤ k1) ∧ Aq (IsS68 w0 wc g x1000_1 s0_1) ∧ Aq (KeepBut w wc g none) ∧ Aq (Below w0.heap.size w0 wc))
   case first =>
    have H := HC5.out
    clear HC5
    by_cases c7 : x4_1 = 9
    case neg =>
     rw [if_neg c7] at H
     have c7b0 : (x4_1 == 9) = false := beq_eq_false_iff_ne.mpr c7
     have c7b1 : (x4_1 != 9) = true := bne_iff_ne.mpr c7
     (first | rw [c7b0] | (simp only [i64_w, i32_w]; rw [c7b0]) | skip)
     have H' := Aq.mk H
     clear H
     go_wp2
     go_meet
     case rel => exact ⟨_, (decide (x4_1 > 9)), (by first | rfl | (simp; done) | (simp [*]; done)), H', ⟨by have := HK1.out; first | omega | exact Nat.le_refl _⟩, ⟨by repeat (first | (with_reducible first | exact HI0.out | apply IsS68.alloc | apply IsS68.drewN | apply IsS68.drew | apply IsS68.set_0 | apply IsS68.set_1) | exact HI0.out)⟩, ⟨by repeat (first | (with_reducible first | exact HK.out | apply KeepBut.set_ | apply keep_drewN | apply keep_drew | apply keep_alloc) | exact HK.out)⟩, ⟨by repeat (with_reducible first | exact HB.out | apply q4q | apply q0q | apply q2q | refine q5q ?_ (IsS68.ge HI0.out))⟩⟩
    rw [if_pos c7] at H
    have c7b0 : (x4_1 == 9) = true := beq_iff_eq.mpr c7
    have c7b1 : (x4_1 != 9) = false := bne_eq_false_iff_eq.mpr c7
    clear c7
    (first | rw [c7b0] | (simp only [i64_w, i32_w]; rw [c7b0]) | skip)
    by_cases c8 : (IntKind.u64.wrap (bt x1000_1 x4_1)) > 1
    ·rw [if_pos c8] at H
     have c8b0 : decide (1 < (IntKind.u64.wrap (bt x1000_1 x4_1))) = true := decide_eq_true c8
     clear c8
     have H' := Aq.mk H
     clear H
     go_wp2
     go_meet
     case rel => exact ⟨_, (true), (by first | rfl | (simp; done) | (simp [*]; done)), H', ⟨by have := HK1.out; first | omega | exact Nat.le_refl _⟩, ⟨by repeat (first | (with_reducible first | exact HI0.out | apply IsS68.alloc | apply IsS68.drewN | apply IsS68.drew | apply IsS68.set_0 | apply IsS68.set_1) | exact HI0.out)⟩, ⟨by repeat (first | (with_reducible first | exact HK.out | apply KeepBut.set_ | apply keep_drewN | apply keep_drew | apply keep_alloc) | exact HK.out)⟩, ⟨by repeat (with_reducible first | exact HB.out | apply q4q | apply q0q | apply q2q | refine q5q ?_ (IsS68.ge HI0.out))⟩⟩
    rw [if_neg c8] at H
    have c8b0 : decide (1 < (IntKind.u64.wrap (bt x1000_1 x4_1))) = false := decide_eq_false c8
    clear c8
    have H' := Aq.mk H
    clear H
    go_wp2
    go_meet
    case rel => exact ⟨_, (decide (x4_1 > 9)), (by first | rfl | (simp; done) | (simp [*]; done)), H', ⟨by have := HK1.out; first | omega | exact Nat.le_refl _⟩, ⟨by repeat (first | (with_reducible first | exact HI0.out | apply IsS68.alloc | apply IsS68.drewN | apply IsS68.drew | apply IsS68.set_0 | apply IsS68.set_1) | exact HI0.out)⟩, ⟨by repeat (first | (with_reducible first | exact HK.out | apply KeepBut.set_ | apply keep_drewN | apply keep_drew | apply keep_alloc) | exact HK.out)⟩, ⟨by repeat (with_reducible first | exact HB.out | apply q4q | apply q0q | apply q2q | refine q5q ?_ (IsS68.ge HI0.out))⟩⟩
   case rest =>
    clear HC5
    try clear c2b0
    try clear c3b0
    try clear p4
    try clear q4
    try clear hx4
    try clear hcz6_0
    try clear hcz6_1
    try clear hfz6_0
    try clear hfz6_1
    obtain ⟨kq, x31_4, rfl, HA, HJ4, HI0, HK, HB⟩ := hcut
    cases kq with
    | zero => exact absurd HA.out (by simp [fQ4.j1])
    | succ kj4 =>
     have H := HA.out
     clear HA
     simp only [fQ4.j1] at H
     by_cases c9 : x31_4 = true
     ·subst c9
      have H1 : (some (0, (⟨#[]⟩ : ByteArray), true)) = some (r1, r2, r3) := by rw [if_pos rfl] at H; exact H
      clear H
      have H := H1
      clear H1
      simp only [Option.some.injEq, Prod.mk.injEq] at H
      obtain ⟨rfl, rfl, rfl⟩ := H
      obtain ⟨HGz10, hgz10⟩ := HI0.out
      have hcz10_0 := cellS68_0 HGz10
      have hcz10_1 := cellS68_1 HGz10
      have hfz10_0 := q1q HGz10 0
      have hfz10_1 := q1q HGz10 1
      clear HGz10 hgz10
      go_wp2
      go_ret
      exact ⟨by first | rfl | (simp [*] <;> rfl), by repeat (first | (with_reducible first | exact HI0.out | apply IsS68.alloc | apply IsS68.drewN | apply IsS68.drew | apply IsS68.set_0 | apply IsS68.set_1) | exact HI0.out), by repeat (with_reducible first | exact HB.out | apply q4q | apply q0q | apply q2q | refine q5q ?_ (IsS68.ge HI0.out)), by repeat (first | (with_reducible first | exact HK.out | apply KeepBut.set_ | apply keep_drewN | apply keep_drew | apply keep_alloc) | exact HK.out)⟩
     replace c9 := Bool.eq_false_iff.mpr c9
     subst c9
     have H1 : (if 0 ≤ (wrap64 (7 * x4_1)) then (if (IntKind.u64.wrap (bt x1000_1 x4_1)) < 128 then (if x4_1 > 0 then (if (IntKind.u64.wrap (bt x1000_1 x4_1)) = 0 then (some (0, (⟨#[]⟩ : ByteArray), true)) else (if 0 ≤ (wrap64 (x4_1 + 1)) then (if (wrap64 (x4_1 + 1)) ≤ (x1000_1.size : Int) then (some (Go.bits .or .u64 x3_1 (shl .u64 (Int.tmod (IntKind.u64.wrap (bt x1000_1 x4_1)) 128) (wrap64 (7 * x4_1))), x1000_1.extract ((wrap64 (x4_1 + 1)) : Int).toNat x1000_1.size, s0_1)) else (none)) else (none))) else (if 0 ≤ (wrap64 (x4_1 + 1)) then (if (wrap64 (x4_1 + 1)) ≤ (x1000_1.size : Int) then (some (Go.bits .or .u64 x3_1 (shl .u64 (Int.tmod (IntKind.u64.wrap (bt x1000_1 x4_1)) 128) (wrap64 (7 * x4_1))), x1000_1.extract ((wrap64 (x4_1 + 1)) : Int).toNat x1000_1.size, s0_1)) else (none)) else (none))) else (fQ4.l0 kj4 (Go.bits .or .u64 x3_1 (shl .u64 (Int.tmod (IntKind.u64.wrap (bt x1000_1 x4_1)) 128) (wrap64 (7 * x4_1)))) (wrap64 (x4_1 + 1)) x1000_1 s0_1)) else (none)) = some (r1, r2, r3) := by rw [if_neg (show ¬ (false = true) by decide)] at H; exact H
     clear H
     have H := H1
     clear H1
     obtain ⟨ji11, hji11⟩ : ∃ j_ : Int, (wrap64 (7 * x4_1)) = j_ := ⟨_, rfl⟩
     replace H : (if 0 ≤ (ji11) then (if (IntKind.u64.wrap (bt x1000_1 x4_1)) < 128 then (if x4_1 > 0 then (if (IntKind.u64.wrap (bt x1000_1 x4_1)) = 0 then (some (0, (⟨#[]⟩ : ByteArray), true)) else (if 0 ≤ (wrap64 (x4_1 + 1)) then (if (wrap64 (x4_1 + 1)) ≤ (x1000_1.size : Int) then (some (Go.bits .or .u64 x3_1 (shl .u64 (Int.tmod (IntKind.u64.wrap (bt x1000_1 x4_1)) 128) (ji11)), x1000_1.extract ((wrap64 (x4_1 + 1)) : Int).toNat x1000_1.size, s0_1)) else (none)) else (none))) else (if 0 ≤ (wrap64 (x4_1 + 1)) then (if (wrap64 (x4_1 + 1)) ≤ (x1000_1.size : Int) then (some (Go.bits .or .u64 x3_1 (shl .u64 (Int.tmod (IntKind.u64.wrap (bt x1000_1 x4_1)) 128) (ji11)), x1000_1.extract ((wrap64 (x4_1 + 1)) : Int).toNat x1000_1.size, s0_1)) else (none)) else (none))) else (fQ4.l0 kj4 (Go.bits .or .u64 x3_1 (shl .u64 (Int.tmod (IntKind.u64.wrap (bt x1000_1 x4_1)) 128) (ji11))) (wrap64 (x4_1 + 1)) x1000_1 s0_1)) else (none)) = some (r1, r2, r3) := by first | (rw [hji11] at H; exact H) | (simp only [hji11] at H ⊢; exact H)
     have hji11w : (IntKind.i64.wrap (7 * x4_1)) = ji11 := (i64_w _).trans hji11
     by_cases c12 : 0 ≤ (ji11)
     case neg =>
      rw [if_neg c12] at H
      exact absurd H (by simp)
     rw [if_pos c12] at H
     have c12b0 := eq_true c12
     have c12b1 : decide (0 ≤ (ji11)) = true := decide_eq_true c12
     clear c12
     obtain ⟨ji13, hji13⟩ : ∃ j_ : Int, (shl .u64 (Int.tmod (IntKind.u64.wrap (bt x1000_1 x4_1)) 128) (ji11)) = j_ := ⟨_, rfl⟩
     replace H : (if (IntKind.u64.wrap (bt x1000_1 x4_1)) < 128 then (if x4_1 > 0 then (if (IntKind.u64.wrap (bt x1000_1 x4_1)) = 0 then (some (0, (⟨#[]⟩ : ByteArray), true)) else (if 0 ≤ (wrap64 (x4_1 + 1)) then (if (wrap64 (x4_1 + 1)) ≤ (x1000_1.size : Int) then (some (Go.bits .or .u64 x3_1 (ji13), x1000_1.extract ((wrap64 (x4_1 + 1)) : Int).toNat x1000_1.size, s0_1)) else (none)) else (none))) else (if 0 ≤ (wrap64 (x4_1 + 1)) then (if (wrap64 (x4_1 + 1)) ≤ (x1000_1.size : Int) then (some (Go.bits .or .u64 x3_1 (ji13), x1000_1.extract ((wrap64 (x4_1 + 1)) : Int).toNat x1000_1.size, s0_1)) else (none)) else (none))) else (fQ4.l0 kj4 (Go.bits .or .u64 x3_1 (ji13)) (wrap64 (x4_1 + 1)) x1000_1 s0_1)) = some (r1, r2, r3) := by first | (rw [hji13] at H; exact H) | (simp only [hji13] at H ⊢; exact H)
     have hji13_ : (IntKind.u64.wrap ((Int.tmod (IntKind.u64.wrap (bt x1000_1 x4_1)) 128) * 2 ^ min (ji11).toNat 64)) = ji13 := hji13
     have hji13z : (ji11) ≤ 64 → (IntKind.u64.wrap ((Int.tmod (IntKind.u64.wrap (bt x1000_1 x4_1)) 128) * 2 ^ (ji11).toNat)) = ji13 := shl_small hji13
     by_cases c14 : (IntKind.u64.wrap (bt x1000_1 x4_1)) < 128
     case neg =>
      rw [if_neg c14] at H
      have c14b0 : decide ((IntKind.u64.wrap (bt x1000_1 x4_1)) < 128) = false := decide_eq_false c14
      clear c14
      have H' := Aq.mk H
      clear H
      go_wp2
      go_roundg kj4
      case measure => have := HK1.out; have := HJ4.out; omega
      case rel => exact ⟨(Go.bits .or .u64 x3_1 (ji13)), (wrap64 (x4_1 + 1)), (x1000_1), (by first | rfl | (simp; done) | (simp only [← hji13] <;> (first | rfl | simp)) | (simp [*]; done)), (by first | rfl | (simp; done) | (simp [*]; done)), H', ⟨by have := HK1.out; have := HJ4.out; omega⟩, ⟨by repeat (first | (with_reducible first | exact HI0.out | apply IsS68.alloc | apply IsS68.drewN | apply IsS68.drew | apply IsS68.set_0 | apply IsS68.set_1) | exact HI0.out)⟩, ⟨by repeat (first | (with_reducible first | exact HK.out | apply KeepBut.set_ | apply keep_drewN | apply keep_drew | apply keep_alloc) | exact HK.out)⟩, ⟨by repeat (with_reducible first | exact HB.out | apply q4q | apply q0q | apply q2q | refine q5q ?_ (IsS68.ge HI0.out))⟩⟩
     rw [if_pos c14] at H
     have c14b0 : decide ((IntKind.u64.wrap (bt x1000_1 x4_1)) < 128) = true := decide_eq_true c14
     clear c14
     by_cases c15 : x4_1 > 0
     case neg =>
      rw [if_neg c15] at H
      have c15b0 : decide (0 < x4_1) = false := decide_eq_false c15
      clear c15
      obtain ⟨ji22, hji22⟩ : ∃ j_ : Int, (wrap64 (x4_1 + 1)) = j_ := ⟨_, rfl⟩
      replace H : (if 0 ≤ (ji22) then (if (ji22) ≤ (x1000_1.size : Int) then (some (Go.bits .or .u64 x3_1 (ji13), x1000_1.extract ((ji22) : Int).toNat x1000_1.size, s0_1)) else (none)) else (none)) = some (r1, r2, r3) := by first | (rw [hji22] at H; exact H) | (simp only [hji22] at H ⊢; exact H)
      have hji22w : (IntKind.i64.wrap (x4_1 + 1)) = ji22 := (i64_w _).trans hji22
      by_cases c23 : 0 ≤ (ji22)
      case neg =>
       rw [if_neg c23] at H
       exact absurd H (by simp)
      rw [if_pos c23] at H
      have c23b0 := eq_true c23
      have c23b1 : decide (0 ≤ (ji22)) = true := decide_eq_true c23
      clear c23
      by_cases c24 : (ji22) ≤ (x1000_1.size : Int)
      case neg =>
       rw [if_neg c24] at H
       exact absurd H (by simp)
      rw [if_pos c24] at H
      have c24b0 := eq_true c24
      have c24b1 : decide ((ji22) ≤ (x1000_1.size : Int)) = true := decide_eq_true c24
      clear c24
      simp only [Option.some.injEq, Prod.mk.injEq] at H
      obtain ⟨rfl, rfl, rfl⟩ := H
      obtain ⟨HGz25, hgz25⟩ := HI0.out
      have hcz25_0 := cellS68_0 HGz25
      have hcz25_1 := cellS68_1 HGz25
      have hfz25_0 := q1q HGz25 0
      have hfz25_1 := q1q HGz25 1
      clear HGz25 hgz25
      go_wp2
      go_ret
      exact ⟨by first | rfl | (simp [errW_none, errW_some] <;> rfl) | (simp only [← hji11, ← hji13, ← hji22]; first | rfl | (simp [errW_none, errW_some] <;> rfl)) | (simp [*, errW_none, errW_some] <;> rfl), by repeat (first | (with_reducible first | exact HI0.out | apply IsS68.alloc | apply IsS68.drewN | apply IsS68.drew | apply IsS68.set_0 | apply IsS68.set_1) | exact HI0.out), by repeat (with_reducible first | exact HB.out | apply q4q | apply q0q | apply q2q | refine q5q ?_ (IsS68.ge HI0.out)), by repeat (first | (with_reducible first | exact HK.out | apply KeepBut.set_ | apply keep_drewN | apply keep_drew | apply keep_alloc) | exact HK.out)⟩
     rw [if_pos c15] at H
     have c15b0 : decide (0 < x4_1) = true := decide_eq_true c15
     clear c15
     by_cases c16 : (IntKind.u64.wrap (bt x1000_1 x4_1)) = 0
     ·rw [if_pos c16] at H
      have c16b0 : ((IntKind.u64.wrap (bt x1000_1 x4_1)) == 0) = true := beq_iff_eq.mpr c16
      have c16b1 : ((IntKind.u64.wrap (bt x1000_1 x4_1)) != 0) = false := bne_eq_false_iff_eq.mpr c16
      clear c16
      simp only [Option.some.injEq, Prod.mk.injEq] at H
      obtain ⟨rfl, rfl, rfl⟩ := H
      obtain ⟨HGz17, hgz17⟩ := HI0.out
      have hcz17_0 := cellS68_0 HGz17
      have hcz17_1 := cellS68_1 HGz17
      have hfz17_0 := q1q HGz17 0
      have hfz17_1 := q1q HGz17 1
      clear HGz17 hgz17
      go_wp2
      go_ret
      exact ⟨by first | rfl | (simp [errW_none, errW_some] <;> rfl) | (simp only [← hji11, ← hji13]; first | rfl | (simp [errW_none, errW_some] <;> rfl)) | (simp [*, errW_none, errW_some] <;> rfl), by repeat (first | (with_reducible first | exact HI0.out | apply IsS68.alloc | apply IsS68.drewN | apply IsS68.drew | apply IsS68.set_0 | apply IsS68.set_1) | exact HI0.out), by repeat (with_reducible first | exact HB.out | apply q4q | apply q0q | apply q2q | refine q5q ?_ (IsS68.ge HI0.out)), by repeat (first | (with_reducible first | exact HK.out | apply KeepBut.set_ | apply keep_drewN | apply keep_drew | apply keep_alloc) | exact HK.out)⟩
     rw [if_neg c16] at H
     have c16b0 : ((IntKind.u64.wrap (bt x1000_1 x4_1)) == 0) = false := beq_eq_false_iff_ne.mpr c16
     have c16b1 : ((IntKind.u64.wrap (bt x1000_1 x4_1)) != 0) = true := bne_iff_ne.mpr c16
     obtain ⟨ji18, hji18⟩ : ∃ j_ : Int, (wrap64 (x4_1 + 1)) = j_ := ⟨_, rfl⟩
     replace H : (if 0 ≤ (ji18) then (if (ji18) ≤ (x1000_1.size : Int) then (some (Go.bits .or .u64 x3_1 (ji13), x1000_1.extract ((ji18) : Int).toNat x1000_1.size, s0_1)) else (none)) else (none)) = some (r1, r2, r3) := by first | (rw [hji18] at H; exact H) | (simp only [hji18] at H ⊢; exact H)
     have hji18w : (IntKind.i64.wrap (x4_1 + 1)) = ji18 := (i64_w _).trans hji18
     by_cases c19 : 0 ≤ (ji18)
     case neg =>
      rw [if_neg c19] at H
      exact absurd H (by simp)
     rw [if_pos c19] at H
     have c19b0 := eq_true c19
     have c19b1 : decide (0 ≤ (ji18)) = true := decide_eq_true c19
     clear c19
     by_cases c20 : (ji18) ≤ (x1000_1.size : Int)
     case neg =>
      rw [if_neg c20] at H
      exact absurd H (by simp)
     rw [if_pos c20] at H
     have c20b0 := eq_true c20
     have c20b1 : decide ((ji18) ≤ (x1000_1.size : Int)) = true := decide_eq_true c20
     clear c20
     simp only [Option.some.injEq, Prod.mk.injEq] at H
     obtain ⟨rfl, rfl, rfl⟩ := H
     obtain ⟨HGz21, hgz21⟩ := HI0.out
     have hcz21_0 := cellS68_0 HGz21
     have hcz21_1 := cellS68_1 HGz21
     have hfz21_0 := q1q HGz21 0
     have hfz21_1 := q1q HGz21 1
     clear HGz21 hgz21
     go_wp2
     go_ret
     exact ⟨by first | rfl | (simp [errW_none, errW_some] <;> rfl) | (simp only [← hji11, ← hji13, ← hji18]; first | rfl | (simp [errW_none, errW_some] <;> rfl)) | (simp [*, errW_none, errW_some] <;> rfl), by repeat (first | (with_reducible first | exact HI0.out | apply IsS68.alloc | apply IsS68.drewN | apply IsS68.drew | apply IsS68.set_0 | apply IsS68.set_1) | exact HI0.out), by repeat (with_reducible first | exact HB.out | apply q4q | apply q0q | apply q2q | refine q5q ?_ (IsS68.ge HI0.out)), by repeat (first | (with_reducible first | exact HK.out | apply KeepBut.set_ | apply keep_drewN | apply keep_drew | apply keep_alloc) | exact HK.out)⟩
end Go.Proofs.Ytkkgbbfojmnopaa.G
end
