import Derived.Test.YtnklefbojabblaaPq
import Derived.Test.YtnklefbojabblaaGxF9
import Derived.Test.YtnklefbojabblaaGxF8
namespace Go.Proofs.Ytnklefbojabblaa.Z
open Go.RowKit Go.Proofs.Ytnklefbojabblaa.G Go.Proofs.Ytnklefbojabblaa.H Go.Proofs.YtnklefbojabblaaW.PrintWords Go.Proofs.YtnklefbojabblaaW.PrintLast Go.Proofs.YtnklefbojabblaaW.PrintMore
set_option linter.unusedVariables false
set_option linter.unusedSimpArgs false
theorem w64 (x : Int) (h0 : -9223372036854775808 ≤ x) (h1 : x ≤ 9223372036854775807) : wrap64 x = x := by unfold wrap64; omega
theorem rdig (n : Nat) (h : n < 16) : tallowref03_digit.f (n : Int) = some ((hexd n).toNat : Int) := by
  have : ∀ i : Fin 16, tallowref03_digit.f (i.val : Int) = some ((hexd i.val).toNat : Int) := by decide +kernel
  exact this ⟨n, h⟩
theorem bt_nat (x : ByteArray) (i : Nat) (h : i < x.size) : bt x (i : Int) = ((x[i]'h).toNat : Int) := by
  unfold bt
  rw [dif_pos (by rw [Int.toNat_natCast]; exact h)]
  simp only [Int.toNat_natCast]
theorem drop_step {x : ByteArray} {i : Nat} (h : i < x.size) : x.data.toList.drop i = (x[i]'h) :: x.data.toList.drop (i + 1) := by
  have hl : i < x.data.toList.length := by rw [Array.length_toList]; exact h
  rw [List.drop_eq_getElem_cons hl]
  rfl
theorem rquote_l (x : ByteArray) (hx : x.size < 70368744177664) : ∀ (n k i : Nat) (acc : List Int), 3 * n + 1 ≤ k → i ≤ x.size → x.size - i ≤ n → acc.length + 4 * (x.size - i) < 140737488355327 →
    tallowref03_Quote.l0 k x acc i = some (strOfNums (acc ++ bnums ((x.data.toList.drop i).flatMap qbyte) ++ [34])) := by
  intro n
  induction n with
  | zero =>
    intro k i acc hk h1 h2 h3
    obtain ⟨k, rfl⟩ : ∃ k', k = k' + 1 := ⟨k - 1, by omega⟩
    rw [tallowref03_Quote.l0, if_neg (by omega), if_pos (by omega)]
    rw [List.drop_eq_nil_of_le (by rw [Array.length_toList]; exact (show x.size ≤ i by omega))]
    simp [bnums]
  | succ n ih =>
    intro k i acc hk h1 h2 h3
    obtain ⟨k, rfl⟩ : ∃ k', k = k' + 1 := ⟨k - 1, by omega⟩
    rw [tallowref03_Quote.l0]
    by_cases ha : i < x.size
    · rw [if_pos (by omega), if_pos (by omega), bt_nat x i ha, drop_step ha, w64 _ (by omega) (by omega), show ((i : Int) + 1) = ((i + 1 : Nat) : Int) by omega]
      generalize hc : x[i]'ha = c
      have hcl := c.toNat_lt
      have step : ∀ (k : Nat) (l : List Int), 3 * n + 1 ≤ k → bnums (qbyte c) = l → tallowref03_Quote.l0 k x (acc ++ l) ((i + 1 : Nat) : Int) = some (strOfNums (acc ++ bnums ((c :: x.data.toList.drop (i + 1)).flatMap qbyte) ++ [34])) := by
        intro k l hk hl
        have h4 : l.length ≤ 4 := by rw [← hl]; simpa [bnums] using qbyte_length c
        rw [ih k (i + 1) (acc ++ l) hk (by omega) (by omega) (by rw [List.length_append]; omega)]
        rw [List.flatMap_cons, ← hl]
        unfold bnums
        simp
      by_cases c10 : (c.toNat : Int) = 10
      · have hq : bnums (qbyte c) = [92, 110] := by unfold qbyte; rw [c10]; rfl
        rw [if_pos c10, Option.bind_some, if_pos (by simp; omega)]
        exact step _ _ (by omega) hq
      rw [if_neg c10]
      by_cases c9 : (c.toNat : Int) = 9
      · have hq : bnums (qbyte c) = [92, 116] := by unfold qbyte; rw [c9]; rfl
        rw [if_pos c9, Option.bind_some, if_pos (by simp; omega)]
        exact step _ _ (by omega) hq
      rw [if_neg c9]
      obtain ⟨k, rfl⟩ : ∃ k', k = k' + 1 := ⟨k - 1, by omega⟩
      have hj1 : bnums (qbyte c) = [92, (c.toNat : Int)] → tallowref03_Quote.j1 (k + 1) x acc i (c.toNat : Int) true = some (strOfNums (acc ++ bnums ((c :: x.data.toList.drop (i + 1)).flatMap qbyte) ++ [34])) := by
        intro hq
        rw [tallowref03_Quote.j1, if_pos rfl, Option.bind_some, if_pos (by simp; omega), w64 _ (by omega) (by omega), show ((i : Int) + 1) = ((i + 1 : Nat) : Int) by omega]
        exact step _ _ (by omega) hq
      by_cases c92 : (c.toNat : Int) = 92
      · rw [if_pos c92]
        exact hj1 (by unfold qbyte; rw [c92]; rfl)
      rw [if_neg c92]
      by_cases c34 : (c.toNat : Int) = 34
      · rw [beq_iff_eq.mpr c34]
        exact hj1 (by unfold qbyte; rw [c34]; rfl)
      rw [beq_eq_false_iff_ne.mpr c34, tallowref03_Quote.j1, if_neg (by decide)]
      have hsh : short c.toNat = none := by unfold short; rw [if_neg c34, if_neg c92, if_neg c9, if_neg c10]
      obtain ⟨k, rfl⟩ : ∃ k', k = k' + 1 := ⟨k - 1, by omega⟩
      have hj2 : (c.toNat < 32 ∨ 126 < c.toNat) → tallowref03_Quote.j2 (k + 1) x acc i (c.toNat : Int) true = some (strOfNums (acc ++ bnums ((c :: x.data.toList.drop (i + 1)).flatMap qbyte) ++ [34])) := by
        intro hr
        have hq : bnums (qbyte c) = [92, 120, ((hexd (c.toNat / 16)).toNat : Int), ((hexd (c.toNat % 16)).toNat : Int)] := by unfold qbyte; rw [hsh]; simp only []; rw [if_pos hr]; rfl
        have e1 : Int.tdiv (c.toNat : Int) 16 % 256 = ((c.toNat / 16 : Nat) : Int) := by
          rw [Int.tdiv_eq_ediv_of_nonneg (by omega)]; omega
        have e2 : Int.tmod (c.toNat : Int) 16 = ((c.toNat % 16 : Nat) : Int) := by
          rw [Int.tmod_eq_emod_of_nonneg (by omega)]; omega
        rw [tallowref03_Quote.j2, if_pos rfl, e1, e2, rdig _ (by omega), rdig _ (by omega)]
        simp only [Option.bind_some]
        rw [if_pos (by simp; omega), w64 _ (by omega) (by omega), show ((i : Int) + 1) = ((i + 1 : Nat) : Int) by omega]
        exact step _ _ (by omega) hq
      by_cases c32 : (c.toNat : Int) < 32
      · rw [if_pos c32]
        exact hj2 (by omega)
      rw [if_neg c32]
      by_cases c126 : (c.toNat : Int) > 126
      · rw [decide_eq_true c126]
        exact hj2 (by omega)
      · rw [decide_eq_false c126, tallowref03_Quote.j2, if_neg (by decide), if_pos (by omega), w64 _ (by omega) (by omega), show ((i : Int) + 1) = ((i + 1 : Nat) : Int) by omega]
        exact step _ _ (by omega) (by unfold qbyte; rw [hsh]; simp only []; rw [if_neg (by omega)]; rfl)
    · rw [if_neg (by omega), if_pos (by omega)]
      rw [List.drop_eq_nil_of_le (by rw [Array.length_toList]; exact (show x.size ≤ i by omega))]
      simp [bnums]
theorem str_nums (l : List UInt8) : strOfNums (bnums l) = ⟨l.toArray⟩ := by
  unfold strOfNums bnums
  rw [List.map_map]
  congr 2
  have : (fun n : Int => UInt8.ofNat n.toNat) ∘ (fun b : UInt8 => (b.toNat : Int)) = id := by
    funext b; simp
  rw [this, List.map_id]
theorem rquote (x : ByteArray) (hx : x.size ≤ 1000000) (k : Nat) (hk : 3 * x.size + 1 ≤ k) : tallowref03_Quote.f k x = quote_Quote.f x := by
  unfold tallowref03_Quote.f quote_Quote.f
  rw [if_pos (by omega)]
  have := rquote_l x (by omega) x.size k 0 [34] hk (Nat.zero_le _) (by omega) (by simp; omega)
  rw [show ((0 : Nat) : Int) = 0 from rfl] at this
  rw [this]
  congr 1
  rw [show ([34] ++ bnums ((x.data.toList.drop 0).flatMap qbyte) ++ [34] : List Int) = bnums (qtext x) by simp [bnums, qtext], str_nums]
end Go.Proofs.Ytnklefbojabblaa.Z
