/- ValJoins, the plain law: the objects of two lists, one behind the other, are those of the one, and of the other; the two lists of at most a million values. -/
import Derived.Test.YtdniemdjoipbiaaPz
import Derived.Test.YtdniemdjoipbiaaGx6
namespace Go.Proofs.Ytdniemdjoipbiaa.Pure
open Go.RowKit Go.Proofs.Ytdniemdjoipbiaa.G Go.Proofs.Ytdniemdjoipbiaa.Z Go.Proofs.YtdniemdjoipbiaaW.PrintWords Go.Proofs.YtdniemdjoipbiaaW.PrintLast

theorem rd_get (l : List Int) (i : Nat) (h : i < l.length) : rd l (i : Int) = l[i] := by
  unfold rd; simp [h]
theorem joins_from (x y : List Int) (hl : x.length + y.length ≤ 9000000) (d : Nat) : ∀ (k i : Nat), (x ++ y).length - i = d → i ≤ (x ++ y).length → d < k → tallowlaw02_ValJoins.l0 k x y (x ++ y) i = some true := by
  induction d with
  | zero =>
    intro k i hd hi hk
    obtain ⟨k, rfl⟩ : ∃ m, k = m + 1 := ⟨k - 1, by omega⟩
    rw [tallowlaw02_ValJoins.l0, if_neg (by omega)]
  | succ d ih =>
    intro k i hd hi hk
    obtain ⟨k, rfl⟩ : ∃ m, k = m + 1 := ⟨k - 1, by omega⟩
    have hlen : (x ++ y).length = x.length + y.length := List.length_append
    have hlt : i < (x ++ y).length := by omega
    have hc : ((i : Int) + 1) = ((i + 1 : Nat) : Int) := by omega
    have hn := ih k (i + 1) (by omega) (by omega) (by omega)
    rw [tallowlaw02_ValJoins.l0, if_pos (by omega), w64 (i := (i : Int) + 1) (by omega) (by omega), hc, hn, w64 (i := (i : Int) - (x.length : Int)) (by omega) (by omega)]
    by_cases hx : i < x.length
    · have e1 : rd (x ++ y) (i : Int) = rd x (i : Int) := by
        rw [rd_get _ _ hlt, rd_get _ _ hx, List.getElem_append_left hx]
      rw [if_pos (by omega), if_pos (by omega), if_pos e1, if_neg (by omega)]
    · have e1 : rd (x ++ y) (i : Int) = rd y ((i : Int) - (x.length : Int)) := by
        have hc2 : ((i : Int) - (x.length : Int)) = ((i - x.length : Nat) : Int) := by omega
        rw [hc2, rd_get _ _ hlt, rd_get _ _ (by omega), List.getElem_append_right (by omega)]
      rw [if_neg (by omega), if_pos (by omega), if_pos (by omega), if_pos (by omega), if_pos (by omega), if_pos e1]
theorem sum_ge {α : Type} (m : α → Nat) (h : ∀ x, 1 ≤ m x) : ∀ l : List α, l.length ≤ (l.map m).sum
  | [] => by simp
  | x :: l => by have := h x; have := sum_ge m h l; simp; omega
theorem ValJoins (a b : List S23) {p q : Prop} (_ : p) (_ : q) (hb : ((a.map fun _ => ((1 + 1) + 1)).sum + 1) + ((b.map fun _ => ((1 + 1) + 1)).sum + 1) ≤ 1048576) : ∃ k, tallowlaw02_ValJoins.f k a b = some true := by
  have h : a.length + b.length ≤ 1048576 := by
    have s1 := sum_ge (fun _ : S23 => ((1 + 1) + 1)) (fun _ => by omega) a
    have s2 := sum_ge (fun _ : S23 => ((1 + 1) + 1)) (fun _ => by omega) b
    omega
  clear hb
  refine ⟨a.length + b.length + 2, ?_⟩
  have h1 := refsL_le a
  have h2 := refsL_le b
  have hab : (a ++ b).length = a.length + b.length := List.length_append
  have hrr : (refsL a ++ refsL b).length = (refsL a).length + (refsL b).length := List.length_append
  have g1 : ([] : List S23).length + a.length < 8796093022208 := by rw [List.length_nil]; omega
  have g2 : a.length + b.length < 8796093022208 := by omega
  have r1 := vrefs a (by omega) (a.length + b.length + 2) (by omega)
  have r2 := vrefs b (by omega) (a.length + b.length + 2) (by omega)
  have r3 := vrefs (a ++ b) (by omega) (a.length + b.length + 2) (by omega)
  rw [refsL_append] at r3
  have hl : ((refsL a ++ refsL b).length : Int) = wrap64 ((refsL a).length + (refsL b).length : Int) := by
    rw [w64 (by omega) (by omega), List.length_append]; omega
  have h3 := joins_from (refsL a) (refsL b) (by omega) (refsL a ++ refsL b).length (a.length + b.length + 2) 0 (by omega) (by omega) (by omega)
  rw [show ((0 : Nat) : Int) = 0 from rfl] at h3
  generalize a.length + b.length + 2 = k at *
  unfold tallowlaw02_ValJoins.f
  rw [tallowlaw02_works.f, Option.bind_some, if_pos rfl, if_pos g1, Option.bind_some, List.nil_append, if_pos g2, r1, Option.bind_some, r2, Option.bind_some, r3, Option.bind_some, if_pos hl]
  exact h3
end Go.Proofs.Ytdniemdjoipbiaa.Pure
