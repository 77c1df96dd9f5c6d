import Derived.Test.YtdniemdjoipbiaaGx2
import Derived.Test.YtdniemdjoipbiaaGx4
namespace Go.Proofs.Ytdniemdjoipbiaa.Z
open Go.RowKit Go.Proofs.Ytdniemdjoipbiaa.G Go.Proofs.YtdniemdjoipbiaaW.PrintWords Go.Proofs.YtdniemdjoipbiaaW.PrintLast

/-- the document's May is the program's -/
theorem rmay (k : Nat) (a b : Int) : tallowref02_May.f (k + 1) a b = some (H.mayB a b) := by
  unfold tallowref02_May.f H.mayB
  by_cases h0 : a = 0
  · subst h0; simp [tallowref02_May.j0]
  by_cases h1 : a = 1
  · subst h1; simp [tallowref02_May.j0]
  have e1 : (a == 1) = false := by simpa using h1
  rw [if_neg h0, if_neg h0, if_neg h1, e1]
  simp only [tallowref02_May.j0, H.withinB]
  rw [if_neg (by decide)]
  by_cases h2 : a = 2
  · rw [if_pos h2, if_pos h2]
    by_cases hb : b = 0
    · rw [if_pos hb]; simp [hb]
    · rw [if_neg hb, Option.some.injEq, Bool.eq_iff_iff]; simp; omega
  rw [if_neg h2, if_neg h2]
  by_cases h3 : a = 3
  · rw [if_pos h3, if_pos h3]
  rw [if_neg h3, if_neg h3]
  by_cases h4 : a = 4
  · rw [if_pos h4, if_pos h4]
    by_cases hb : b ≥ 0
    · rw [if_pos hb, if_neg (by omega)]
    · rw [if_neg hb, if_pos (by omega)]
  rw [if_neg h4, if_neg h4]
  by_cases h5 : a ≥ 5
  · have d5 : decide (5 ≤ a) = true := by simpa using h5
    rw [if_pos h5, d5]
    by_cases h9 : a ≤ 9
    · have d9 : decide (a ≤ 9) = true := by simpa using h9
      rw [if_pos h9, d9]
      by_cases hb : b ≥ 1
      · rw [if_pos hb, if_neg (by omega)]; simp
      · rw [if_neg hb, if_pos (by omega)]; simp
    · have d9 : decide (a ≤ 9) = false := by simpa using h9
      rw [if_neg h9, d9]; simp
  · have d5 : decide (5 ≤ a) = false := by simpa using h5
    rw [if_neg h5, d5]; simp

def refB (a b : Int) : Bool := decide (a ≥ 5) && H.mayB a b
def keyB (a b : Int) : Bool := decide (a > 1) && H.mayB a b
def truthB (a b : Int) : Bool := keyB a b && (!(a == 2) || !(b == 0))
theorem vref (a b : Int) : val_Ref.f a b = some (refB a b) := by
  unfold val_Ref.f val_May.f refB
  by_cases h : a ≥ 5 <;> simp [h]
theorem vkey (a b : Int) : val_Key.f a b = some (keyB a b) := by
  unfold val_Key.f val_May.f keyB
  by_cases h : a > 1 <;> simp [h]
theorem vtruth (a b : Int) : val_Truth.f a b = some (truthB a b) := by
  unfold val_Truth.f truthB
  rw [vkey]
  cases keyB a b <;> simp
theorem rref (k : Nat) (a b : Int) : tallowref02_Ref.f (k + 1) a b = some (refB a b) := by
  unfold tallowref02_Ref.f refB
  rw [rmay]
  cases H.mayB a b <;> simp
theorem may_neg {a b : Int} (h : a < 0) : H.mayB a b = false := by
  unfold H.mayB
  rw [if_neg (by omega), if_neg (by omega), if_neg (by omega), if_neg (by omega), if_neg (by omega)]
  simp; omega
theorem rkey (k : Nat) (a b : Int) : tallowref02_Key.f (k + 1) a b = some (keyB a b) := by
  unfold tallowref02_Key.f keyB
  rw [rmay]
  by_cases hm : H.mayB a b = true
  · rw [hm]
    have h0 : ¬ a < 0 := fun h => by rw [may_neg h] at hm; cases hm
    simp only [Option.bind_some, if_true, Bool.and_true]
    by_cases ha : a = 0
    · rw [if_pos ha]; simp [ha]
    · rw [if_neg ha, Option.some.injEq, Bool.eq_iff_iff]; simp; omega
  · rw [Bool.eq_false_iff.2 hm]; simp
theorem rtruth (k : Nat) (a b : Int) : tallowref02_Truth.f (k + 1) a b = some (truthB a b) := by
  unfold tallowref02_Truth.f truthB keyB
  rw [rmay]
  by_cases hm : H.mayB a b = true
  · rw [hm]
    have h0 : ¬ a < 0 := fun h => by rw [may_neg h] at hm; cases hm
    simp only [Option.bind_some, if_true, Bool.and_true]
    by_cases ha : a = 0
    · rw [if_pos ha]; simp [ha]
    rw [if_neg ha]
    by_cases h1 : a = 1
    · rw [if_pos h1]; simp [h1]
    rw [if_neg h1]
    have hg : decide (a > 1) = true := by simp; omega
    rw [hg]
    by_cases h2 : a = 2
    · subst h2
      rw [if_pos rfl, Option.some.injEq, Bool.eq_iff_iff]
      have : H.mayB 2 b = H.withinB 0 1 b := by simp [H.mayB]
      rw [this] at hm
      unfold H.withinB at hm
      simp at hm ⊢; omega
    · rw [if_neg h2]; simp [h2]
  · rw [Bool.eq_false_iff.2 hm]; simp

theorem w64 {i : Int} (h0 : -9223372036854775808 ≤ i) (h1 : i ≤ 9223372036854775807) : wrap64 i = i := by unfold wrap64; omega

/-- the objects of a list -/
def refsL (l : List S23) : List Int := (l.filter fun x => refB x.f0 x.f1).map (·.f1)
theorem refsL_append (a b : List S23) : refsL (a ++ b) = refsL a ++ refsL b := by simp [refsL]
theorem refsL_yes {x : S23} {l : List S23} (h : refB x.f0 x.f1 = true) : refsL (x :: l) = x.f1 :: refsL l := by simp [refsL, h]
theorem refsL_no {x : S23} {l : List S23} (h : refB x.f0 x.f1 = false) : refsL (x :: l) = refsL l := by simp [refsL, h]
theorem refsL_le (l : List S23) : (refsL l).length ≤ l.length := by
  unfold refsL; rw [List.length_map]; exact List.length_filter_le _ _
theorem rd23 (l : List S23) (i : Nat) (h : i < l.length) : rd_T23 l i = l[i] := by
  unfold rd_T23; rw [List.getD_eq_getElem?_getD]; simp [h]
theorem vrefs_from (l : List S23) (hl : l.length ≤ 8796093022080) (d : Nat) : ∀ (k i : Nat) (acc : List Int), l.length - i = d → i ≤ l.length → d < k → acc.length ≤ i →
    val_Refs.l0 k acc l l.length i = some (acc ++ refsL (l.drop i)) := by
  induction d with
  | zero =>
    intro k i acc hd hi hk ha
    obtain ⟨k, rfl⟩ : ∃ m, k = m + 1 := ⟨k - 1, by omega⟩
    have hii : i = l.length := by omega
    subst hii
    simp only [val_Refs.l0]; rw [if_neg (by omega)]
    simp [refsL]
  | succ d ih =>
    intro k i acc hd hi hk ha
    obtain ⟨k, rfl⟩ : ∃ m, k = m + 1 := ⟨k - 1, by omega⟩
    have hlt : i < l.length := by omega
    have hdr : l.drop i = l[i] :: l.drop (i + 1) := List.drop_eq_getElem_cons hlt
    simp only [val_Refs.l0]
    rw [if_pos (by omega), if_pos (by omega), if_pos (by omega), vref, rd23 l i hlt, w64 (by omega) (by omega)]
    simp only [Option.bind_some]
    have hc : ((i : Int) + 1) = ((i + 1 : Nat) : Int) := by omega
    rw [hc, hdr]
    cases hr : refB l[i].f0 l[i].f1
    · rw [if_neg (by decide), ih k (i + 1) acc (by omega) (by omega) (by omega) (by omega), refsL_no hr]
    · rw [if_pos rfl, if_pos (by omega), ih k (i + 1) _ (by omega) (by omega) (by omega) (by simp; omega), refsL_yes hr]
      simp
theorem vrefs (l : List S23) (hl : l.length ≤ 8796093022080) (k : Nat) (hk : l.length < k) : val_Refs.f k l = some (refsL l) := by
  unfold val_Refs.f
  have := vrefs_from l hl l.length k 0 [] (by omega) (by omega) hk (by simp)
  simpa using this
theorem rrefs_from (l : List S23) (hl : l.length ≤ 8796093022080) (d : Nat) : ∀ (k i : Nat) (acc : List Int), l.length - i = d → i ≤ l.length → d + 1 < k → acc.length ≤ i →
    tallowref02_Refs.l0 k l acc i = some (acc ++ refsL (l.drop i)) := by
  induction d with
  | zero =>
    intro k i acc hd hi hk ha
    obtain ⟨k, rfl⟩ : ∃ m, k = m + 1 := ⟨k - 1, by omega⟩
    have hii : i = l.length := by omega
    subst hii
    simp only [tallowref02_Refs.l0]; rw [if_neg (by omega)]
    simp [refsL]
  | succ d ih =>
    intro k i acc hd hi hk ha
    obtain ⟨k, rfl⟩ : ∃ m, k = m + 1 + 1 := ⟨k - 2, by omega⟩
    have hlt : i < l.length := by omega
    have hdr : l.drop i = l[i] :: l.drop (i + 1) := List.drop_eq_getElem_cons hlt
    rw [tallowref02_Refs.l0]
    rw [if_pos (by omega), if_pos (by omega), rref, rd23 l i hlt, w64 (by omega) (by omega)]
    simp only [Option.bind_some]
    have hc : ((i : Int) + 1) = ((i + 1 : Nat) : Int) := by omega
    rw [hc, hdr]
    cases hr : refB l[i].f0 l[i].f1
    · rw [if_neg (by decide), ih (k + 1) (i + 1) acc (by omega) (by omega) (by omega) (by omega), refsL_no hr]
    · rw [if_pos rfl, if_pos (by omega), ih (k + 1) (i + 1) _ (by omega) (by omega) (by omega) (by simp; omega), refsL_yes hr]
      simp
theorem rrefs (l : List S23) (hl : l.length ≤ 8796093022080) (k : Nat) (hk : l.length + 1 < k) : tallowref02_Refs.f k l = some (refsL l) := by
  unfold tallowref02_Refs.f
  have := rrefs_from l hl l.length k 0 [] (by omega) (by omega) hk (by simp)
  simpa using this
theorem ints_from (l : List Int) (hl : l.length ≤ 9223372036854775806) (d : Nat) : ∀ (k i : Nat), l.length - i = d → i ≤ l.length → d < k → tallowref02_Ints.l0 k l l i = some true := by
  induction d with
  | zero =>
    intro k i hd hi hk
    obtain ⟨k, rfl⟩ : ∃ m, k = m + 1 := ⟨k - 1, by omega⟩
    simp only [tallowref02_Ints.l0]; rw [if_neg (by omega)]
  | succ d ih =>
    intro k i hd hi hk
    obtain ⟨k, rfl⟩ : ∃ m, k = m + 1 := ⟨k - 1, by omega⟩
    rw [tallowref02_Ints.l0, if_pos (by omega), if_pos (by omega), if_pos (by omega), if_pos rfl, w64 (by omega) (by omega)]
    have hc : ((i : Int) + 1) = ((i + 1 : Nat) : Int) := by omega
    rw [hc, ih k (i + 1) (by omega) (by omega) (by omega)]
theorem ints_same (l : List Int) (hl : l.length ≤ 9223372036854775806) (k : Nat) (hk : l.length < k) : tallowref02_Ints.f k l l = some true := by
  unfold tallowref02_Ints.f
  rw [if_pos rfl]
  exact ints_from l hl l.length k 0 (by omega) (by omega) hk
end Go.Proofs.Ytdniemdjoipbiaa.Z
