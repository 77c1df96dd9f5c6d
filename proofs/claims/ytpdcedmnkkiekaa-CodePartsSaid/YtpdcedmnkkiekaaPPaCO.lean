import Derived.Shelf.Abstract
import Derived.Test.YtpdcedmnkkiekaaPPaGxF19
import Derived.Test.YtpdcedmnkkiekaaPPaGxF15
import Derived.Test.YtpdcedmnkkiekaaPPaGxF14
import Derived.Test.YtpdcedmnkkiekaaPPaGxF20
import Derived.Lib.Hide
set_option linter.unusedVariables false
set_option linter.unusedSimpArgs false
section
namespace Go.Proofs.Ytpdcedmnkkiekaa.G
open Go.Shelf Go.RowKit Go.Proofs.YtpdcedmnkkiekaaW.PrintWords Go.Proofs.YtpdcedmnkkiekaaW.PrintLast Go.Proofs.YtpdcedmnkkiekaaW.PrintMore
set_option linter.unusedVariables false
set_option linter.unusedSimpArgs false
theorem one_P0 (w : World) (b B : Nat) (hB : B ≤ b) (hl : B ≤ w.heap.size) (h : w.heap[b]? = some (.cells #[.int .i64 0, .int .i64 0, .int .i64 0, .int .i64 19, .int .i64 0, .int .i64 0] 33 (0, 0))) :
    Calls Try.prog 20 #[.int .i64 1, .slice (some ⟨b, 0, none⟩) 2 2] w fun e w' => ∃ d cp A2 c2 A3 c3 A4 c4, e = .returned (.agg #[.slice (some ⟨d, 0, none⟩) 1 cp]) ∧ w.heap.size ≤ d ∧
      w'.cell? ⟨d, 0, none⟩ = some (.int .i64 0) ∧ w'.cell? ⟨d, 1, none⟩ = some (.int .i64 1) ∧ w'.cell? ⟨d, 2, none⟩ = some (.slice A2 0 c2) ∧ w'.cell? ⟨d, 3, none⟩ = some (.slice A3 0 c3) ∧ w'.cell? ⟨d, 4, none⟩ = some (.slice A4 2 c4) ∧
      Kd.FK k41 w' (fun x => B ≤ x) P0 [.int .i64 0, .int .i64 1, .slice A2 0 c2, .slice A3 0 c3, .slice A4 2 c4] ∧ Below w.heap.size w w' := by
  refine (tallowlaw20_one.calls 1 (fun x => x = b) (some ⟨b, 0, none⟩) 2 [⟨0, 0, 0⟩, ⟨19, 0, 0⟩] [P0] w ⟨some ⟨b, 0, none⟩, 2, rfl, Nat.le_refl 2, F33_two (x := ⟨0, 0, 0⟩) (y := ⟨19, 0, 0⟩) h rfl⟩ rfl).mono ?_
  rintro e w' ⟨v0, rfl, hN, hb⟩
  obtain ⟨d, cp, rfl, hd, _, _⟩ := Kd.N_form hN (by decide)
  obtain ⟨c, hcl, hfk, hcell, _⟩ := Kd.N_elem hN P0 0 (by decide) (by decide)
  have hfk2 : Kd.FK k41 w' (fun x => B ≤ x) P0 c := Kd.FK_mono hfk (fun x hx => by
    rcases hx.1 with e | e
    · omega
    · omega)
  obtain ⟨A2, c2, A3, c3, A4, c4, rfl, _⟩ := k41_openF hfk
  exact ⟨d, cp, A2, c2, A3, c3, A4, c4, rfl, hd, hcell 0 _ rfl, hcell 1 _ rfl, hcell 2 _ rfl, hcell 3 _ rfl, hcell 4 _ rfl, hfk2, hb⟩
end Go.Proofs.Ytpdcedmnkkiekaa.G
end
