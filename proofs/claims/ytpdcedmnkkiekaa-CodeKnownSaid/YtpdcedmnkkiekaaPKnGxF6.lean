import Derived.Deep.RegionLaw
import Derived.WalkSpells
import Derived.Shelf.Abstract
import Derived.Test.YtpdcedmnkkiekaaPKnCA
import Derived.Lib.Hide
set_option linter.unusedVariables false
set_option linter.unusedSimpArgs false
section
namespace Go.Proofs.Ytpdcedmnkkiekaa.G
open Go.Shelf Go.RowKit Go.Proofs.YtpdcedmnkkiekaaW.PrintWords Go.Proofs.YtpdcedmnkkiekaaW.PrintLast Go.Proofs.YtpdcedmnkkiekaaW.PrintMore
set_option linter.unusedVariables false
set_option linter.unusedSimpArgs false
theorem field28 (d n cp : Nat) (w : World) : (Instr.field 28 (.agg #[.slice (some ⟨d, 0, none⟩) n cp]) 0).run Try.prog w = .ok (.slice (some ⟨d, 0, none⟩) n cp) w := by kernel_rfl
def S14 (wo : World) (Av : Option Addr) (cv k : Nat) (w' : World) : Prop := Below wo.heap.size wo w' ∧ w'.heap[wo.heap.size]? = some (.cells #[.slice Av (List.replicate k P0).length cv] 28 (0, 0)) ∧
  Kd.N k41 41 w' (wo.heap.size + 1) (fun x => wo.heap.size + 1 ≤ x) (.slice Av (List.replicate k P0).length cv) (List.replicate k P0)
theorem S14.below {wo w1 w2 : World} {Av : Option Addr} {cv k : Nat} (h : S14 wo Av cv k w1) (hb : Below w1.heap.size w1 w2) : S14 wo Av cv k w2 :=
  ⟨h.1.trans (hb.mono h.1.size), blk_below h.2.1 hb, Kd.N_below h.2.2 hb⟩
theorem S14.next {wo W w10 : World} {Av A10 : Option Addr} {cv k cp10 : Nat} (h : S14 wo Av cv k W) (hb : Below (wo.heap.size + 1) W w10)
    (hN : Kd.N k41 41 w10 (wo.heap.size + 1) (fun x => wo.heap.size + 1 ≤ x) (.slice A10 (List.replicate k P0 ++ [P0]).length cp10) (List.replicate k P0 ++ [P0])) :
    S14 wo A10 cp10 (k + 1) (w10.setCell ⟨wo.heap.size, 0, none⟩ (.slice A10 (k + 1) cp10)) := by
  have e : List.replicate k P0 ++ [P0] = List.replicate (k + 1) P0 := (List.replicate_succ' ..).symm
  rw [e] at hN
  have e2 : (List.replicate (k + 1) P0).length = k + 1 := List.length_replicate ..
  have hk10 := (hb.block wo.heap.size (Nat.lt_succ_self _)).trans h.2.1
  refine ⟨bel_set h.1 hb (Nat.le_succ _) (Nat.le_refl _), ?_, ?_⟩
  · rw [e2]; exact blk_set hk10 0 _
  · exact Kd.N_far hN (p := ⟨wo.heap.size, 0, none⟩) (fun x hx => by show x ≠ wo.heap.size; omega) _
theorem S14.size {wo w1 : World} {Av : Option Addr} {cv k : Nat} (h : S14 wo Av cv k w1) : wo.heap.size + 1 ≤ w1.heap.size := blk_lt h.2.1
theorem check_n {w : World} {A : Option Addr} {n c : Nat} {xs : List S41} {r : Int} (k : Nat) (h : Kd.C k41 w A n xs) (hn : n ≤ c) (hf : code_Check.f k xs = some r) :
    Calls Try.prog 15 #[.agg #[.slice A n c]] w fun e w' => e = .returned (.int .i64 r) ∧ Below w.heap.size w w' := by
  obtain rfl : xs.length = n := h.1
  exact code_Check.calls k A c xs r w h hn hf
end Go.Proofs.Ytpdcedmnkkiekaa.G
end
