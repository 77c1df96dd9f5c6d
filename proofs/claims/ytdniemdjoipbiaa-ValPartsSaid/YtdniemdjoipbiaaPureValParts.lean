import Derived.Test.YtdniemdjoipbiaaPz
import Derived.Test.YtdniemdjoipbiaaGx5
namespace Go.Proofs.Ytdniemdjoipbiaa.Pure
open Go.RowKit Go.Proofs.Ytdniemdjoipbiaa.G Go.Proofs.Ytdniemdjoipbiaa.Z Go.Proofs.YtdniemdjoipbiaaW.PrintWords Go.Proofs.YtdniemdjoipbiaaW.PrintLast

theorem ValParts (a b : Int) {p : Prop} (_ : p) : ∃ _ : Nat, tallowlaw02_ValParts.f a b = some true := by
  refine ⟨0, ?_⟩
  unfold tallowlaw02_ValParts.f
  rw [vref, vtruth, vkey]
  simp only [val_May.f, tallowlaw02_works.f, tallowlaw02_of.f, Option.bind_some, if_true]
  unfold truthB keyB refB
  by_cases hm : H.mayB a b = true
  · rw [hm]
    simp only [Bool.and_true, if_true]
    by_cases h5 : a ≥ 5
    · have h1 : a > 1 := by omega
      have h2 : (a == 2) = false := by simp; omega
      simp [h5, h1, h2]
    · by_cases h1 : a > 1
      · by_cases h2 : a = 2
        · subst h2
          by_cases hb : b = 0
          · subst hb; simp
          · simp [hb]
        · simp [h5, h1, h2]
      · simp [h5, h1]
  · rw [Bool.eq_false_iff.2 hm]; simp

end Go.Proofs.Ytdniemdjoipbiaa.Pure
