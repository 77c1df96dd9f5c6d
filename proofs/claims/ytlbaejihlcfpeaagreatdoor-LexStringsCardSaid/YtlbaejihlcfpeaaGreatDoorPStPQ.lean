import Derived.LaidMore
import Derived.LaidHandle
import Derived.Stop.Joined
import Derived.Lib.IfaceEq
import Derived.Lib.IndexMore
import Derived.Shelf.Abstract
import Derived.LaidEql
import Derived.Stop.Asserts
import Derived.RowKitTokens
import Derived.Lib.LaidTab
import Derived.Lib.AppendIntMem
import Derived.Stop.LaidErr
import Derived.WalkKit
import Derived.Deep.RegionLaw
import Derived.Deep.Cut
import Derived.WalkSpells
import Derived.Maps.OwnOps
import Derived.Maps.OwnSet
import Derived.Maps.Views
import Derived.Maps.RangeWalk
import Derived.Maps.Own
import Derived.Test.YtlbaejihlcfpeaaGreatDoorPStPZ
import Derived.Test.YtlbaejihlcfpeaaGreatDoorPStLX
import Derived.Test.YtlbaejihlcfpeaaGreatDoorPStGxF59
import Derived.Test.YtlbaejihlcfpeaaGreatDoorPStGxF53
import Derived.Lib.Hide
set_option linter.unusedVariables false
set_option linter.unusedSimpArgs false
section
namespace Go.Proofs.YtlbaejihlcfpeaaGreatDoor.Z
open Go.Proofs.YtlbaejihlcfpeaaGreatDoor.G Go.Proofs.YtlbaejihlcfpeaaGreatDoor.H
open Go.Shelf Go.Extern.Stop Go.Stop Go.Extern Go.RowKit Go.Proofs.YtlbaejihlcfpeaaGreatDoorW.PrintWords Go.Proofs.YtlbaejihlcfpeaaGreatDoorW.PrintLast Go.Proofs.YtlbaejihlcfpeaaGreatDoorW.PrintMore
set_option linter.unusedVariables false
set_option linter.unusedSimpArgs false
theorem w64 (x : Int) (h0 : -9223372036854775808 ≤ x) (h1 : x ≤ 9223372036854775807) : wrap64 x = x := by unfold wrap64; omega
theorem rvalue (k : Nat) (a : Int) (h0 : 0 ≤ a) (h1 : a ≤ 255) : tallowref03_value.f (k + 1) a = some (if digitD a < 0 then 16 else digitD a) := by
  unfold tallowref03_value.f
  by_cases a1 : a ≥ 48
  · rw [if_pos a1]
    by_cases a2 : a ≤ 57
    · have hd : digitD a = a - 48 := if_pos ⟨a1, a2⟩
      rw [decide_eq_true a2, hd, if_neg (show ¬ a - 48 < 0 by omega)]
      simp only [tallowref03_value.j0]
      rw [if_pos trivial]
      congr 1; omega
    · rw [decide_eq_false a2]
      simp only [tallowref03_value.j0]
      rw [if_neg (by decide)]
      by_cases a3 : a ≥ 97
      · rw [if_pos a3]
        by_cases a4 : a ≤ 102
        · have hd : digitD a = a - 97 + 10 := (if_neg (by omega)).trans (if_pos ⟨a3, a4⟩)
          rw [if_pos a4, hd, if_neg (show ¬ a - 97 + 10 < 0 by omega)]; congr 1; omega
        · have hd : digitD a = -1 := (if_neg (by omega)).trans (if_neg (by omega))
          rw [if_neg a4, hd, if_pos (by decide)]
      · have hd : digitD a = -1 := (if_neg (by omega)).trans (if_neg (by omega))
        rw [if_neg a3, hd, if_pos (by decide)]
  · have hd : digitD a = -1 := (if_neg (by omega)).trans (if_neg (by omega))
    rw [if_neg a1]
    simp only [tallowref03_value.j0]
    rw [if_neg (by decide), if_neg (by omega), hd, if_pos (by decide)]
def oneOf (u : ByteArray) : Int × Int := match ustep u with | none => (0, 0) | some p => p
theorem rone (k : Nat) (u : ByteArray) (h0 : u.size ≠ 0) : tallowref03_One.f (k + 4) u = some (oneOf u) := by
  have r0 := bt_range u 0
  have r1 := bt_range u 1
  have r2 := bt_range u 2
  have r3 := bt_range u 3
  unfold tallowref03_One.f
  rw [if_neg (by omega), if_pos (by omega)]
  have hj0 : ∀ b, b = true → tallowref03_One.j0 (k + 4) u b = some (0, 0) := fun b hb => by subst hb; simp only [tallowref03_One.j0]; rw [if_pos trivial]
  by_cases c1 : bt u 0 < 32
  · rw [if_pos c1, hj0 _ rfl]; unfold oneOf ustep; rw [if_pos (.inl c1)]
  rw [if_neg c1]
  by_cases c2 : bt u 0 > 126
  · rw [if_pos c2, hj0 _ rfl]; unfold oneOf ustep; rw [if_pos (.inr (.inl c2))]
  rw [if_neg c2]
  by_cases c3 : bt u 0 = 34
  · rw [hj0 _ (beq_iff_eq.mpr c3)]; unfold oneOf ustep; rw [if_pos (.inr (.inr (.inl c3)))]
  rw [beq_eq_false_iff_ne.mpr c3]
  simp only [tallowref03_One.j0]
  rw [if_neg (by decide), if_pos (by omega)]
  by_cases c4 : bt u 0 = 92
  · rw [if_pos c4]
    by_cases c5 : u.size < 2
    · rw [if_pos (by omega)]; unfold oneOf ustep; rw [if_pos (.inr (.inr (.inr ⟨c4, c5⟩)))]
    rw [if_neg (by omega), if_pos (by omega)]
    have hU : oneOf u = match (if bt u 1 = 120 then (if u.size < 4 ∨ digitD (bt u 2) < 0 ∨ digitD (bt u 3) < 0 then none else some (digitD (bt u 2) * 16 + digitD (bt u 3), 4)) else (longOf (bt u 1)).map fun c => (c, 2)) with | none => ((0, 0) : Int × Int) | some p => p := by
      unfold oneOf ustep; rw [if_neg (by omega), if_pos c4]
    by_cases d1 : bt u 1 = 110
    · rw [if_pos d1, hU, d1]; rfl
    rw [if_neg d1]
    by_cases d2 : bt u 1 = 116
    · rw [if_pos d2, hU, d2]; rfl
    rw [if_neg d2]
    have hj1 : tallowref03_One.j1 (k + 3) u (bt u 1) true = some (bt u 1, 2) := by simp only [tallowref03_One.j1]; rw [if_pos trivial, if_pos (by omega)]
    by_cases d3 : bt u 1 = 92
    · rw [if_pos d3, beq_iff_eq.mpr d3, hj1, hU, d3]; rfl
    rw [if_neg d3]
    by_cases d4 : bt u 1 = 34
    · rw [beq_iff_eq.mpr d4, hj1, hU, d4]; rfl
    rw [beq_eq_false_iff_ne.mpr d4]
    simp only [tallowref03_One.j1]
    rw [if_neg (by decide)]
    by_cases d5 : bt u 1 = 120
    · rw [if_pos d5, hU, if_pos d5]
      by_cases d6 : u.size < 4
      · rw [if_neg (by omega), if_pos (.inl d6)]; simp only [tallowref03_One.j2]; rw [if_neg (by decide)]
      rw [if_pos (by omega), if_pos (by omega), rvalue _ _ r2.1 r2.2]
      have l2 := digitD_lt (bt u 2)
      have l3 := digitD_lt (bt u 3)
      simp only [Option.bind_some]
      by_cases e2 : digitD (bt u 2) < 0
      · rw [if_pos e2, if_neg (by decide), if_pos (.inr (.inl e2))]; simp only [tallowref03_One.j2]; rw [if_neg (by decide)]
      rw [if_neg e2, if_pos l2, if_pos (by omega), rvalue _ _ r3.1 r3.2]
      simp only [Option.bind_some]
      by_cases e3 : digitD (bt u 3) < 0
      · rw [if_pos e3, if_pos (.inr (.inr e3))]; simp only [tallowref03_One.j2]; rw [if_neg (by decide)]
      rw [if_neg e3, decide_eq_true l3, if_neg (by omega)]
      simp only [tallowref03_One.j2]
      rw [if_pos trivial, if_pos (by omega), rvalue _ _ r2.1 r2.2]
      simp only [Option.bind_some]
      rw [if_pos (by omega), rvalue _ _ r3.1 r3.2]
      simp only [Option.bind_some]
      rw [if_neg e2, if_neg e3]
      simp only [Option.some.injEq, Prod.mk.injEq, and_true]
      omega
    · rw [if_neg d5, hU, if_neg d5]
      have : longOf (bt u 1) = none := by unfold longOf; rw [if_neg d4, if_neg d3, if_neg d2, if_neg d1]
      rw [this]; rfl
  · rw [if_neg c4]; unfold oneOf ustep; rw [if_neg (by omega), if_neg c4]
theorem dec_step : ∀ (k : Nat) (u : ByteArray), u.size < k → dec (k + 1) u = dec k u
  | 0, u, h => absurd h (Nat.not_lt_zero _)
  | k + 1, u, h => by
    by_cases h0 : u.size = 0
    · unfold dec; rw [if_pos h0, if_pos h0]
    · rw [dec, dec, if_neg h0, if_neg h0]
      cases hs : ustep u with
      | none => rfl
      | some p =>
        obtain ⟨c, n⟩ := p
        have hb := ustep_bounds h0 hs
        have e : (u.extract n.toNat u.size).size = u.size - n.toNat := by rw [ByteArray.size_extract]; omega
        show (dec (k + 1) (u.extract n.toNat u.size)).map _ = (dec k (u.extract n.toNat u.size)).map _
        rw [dec_step k _ (by omega)]
theorem dec_fuel (u : ByteArray) : ∀ d : Nat, dec (u.size + 1 + d) u = dec (u.size + 1) u
  | 0 => rfl
  | d + 1 => (dec_step (u.size + 1 + d) u (by omega)).trans (dec_fuel u d)
theorem decE_fuel (k : Nat) (u : ByteArray) (acc : List Int) (h : u.size < k) : decE k u acc = decE (u.size + 1) u acc := by
  obtain ⟨d, rfl⟩ : ∃ d, k = u.size + 1 + d := ⟨k - u.size - 1, by omega⟩
  unfold decE
  rw [dec_fuel]
theorem ext_ext (u : ByteArray) (a n : Nat) (h : a + n ≤ u.size) : (u.extract a u.size).extract n (u.extract a u.size).size = u.extract (a + n) u.size := by
  apply ByteArray.ext
  have e : (u.extract a u.size).size = u.size - a := by rw [ByteArray.size_extract]; omega
  rw [e, ByteArray.data_extract, ByteArray.data_extract, ByteArray.data_extract, Array.extract_extract]
  congr 1
  omega
theorem decE_end (k : Nat) (u : ByteArray) (acc : List Int) (h : u.size = 0) : decE (k + 1) u acc = if (acc.length : Int) > 4096 then (⟨#[]⟩, 3) else (strOfNums acc, 0) := by
  unfold decE dec
  rw [if_pos h]
  show fin (acc ++ []) = _
  rw [List.append_nil]
  unfold fin
  by_cases hl : acc.length > 4096
  · rw [if_pos hl, if_pos (by omega)]
  · rw [if_neg hl, if_neg (by omega)]
theorem runq_l (u : ByteArray) (hu : u.size < 70368744177664) : ∀ (n at_ : Nat) (acc : List Int), at_ ≤ u.size → u.size - at_ ≤ n → acc.length + (u.size - at_) < 140737488355328 →
    tallowref03_Unquote.l0 (n + 5) u acc at_ = some (decE (n + 1) (u.extract at_ u.size) acc) := by
  intro n
  induction n with
  | zero =>
    intro at_ acc h1 h2 h3
    have e : (u.extract at_ u.size).size = u.size - at_ := by rw [ByteArray.size_extract]; omega
    rw [tallowref03_Unquote.l0, if_neg (by omega)]
    rw [decE_end _ _ _ (by omega)]
    split <;> rfl
  | succ n ih =>
    intro at_ acc h1 h2 h3
    have e : (u.extract at_ u.size).size = u.size - at_ := by rw [ByteArray.size_extract]; omega
    rw [tallowref03_Unquote.l0]
    by_cases ha : at_ < u.size
    · rw [if_pos (by omega), if_pos (by omega), if_pos (by omega)]
      have h0 : (u.extract at_ u.size).size ≠ 0 := by omega
      show ((tallowref03_One.f (n + 1 + 4) (u.extract at_ u.size)).bind _) = _
      rw [rone _ _ h0, Option.bind_some]
      unfold oneOf
      unfold decE dec
      rw [if_neg h0]
      cases hs : ustep (u.extract at_ u.size) with
      | none => rfl
      | some p =>
        obtain ⟨c, m⟩ := p
        have hb := ustep_bounds h0 hs
        show (if m = 0 then _ else if acc.length < 140737488355328 then tallowref03_Unquote.l0 (n + 5) u (acc ++ [c]) (wrap64 ((at_ : Int) + m)) else none) = _
        rw [if_neg (by omega), if_pos (by omega), w64 _ (by omega) (by omega)]
        obtain ⟨m', rfl⟩ := Int.eq_ofNat_of_zero_le (show 0 ≤ m by omega)
        rw [show ((at_ : Int) + (m' : Int)) = ((at_ + m' : Nat) : Int) by omega, ih (at_ + m') (acc ++ [c]) (by omega) (by omega) (by simp; omega)]
        show some (decE (n + 1) (u.extract (at_ + m') u.size) (acc ++ [c])) = some (match ((dec (n + 1) ((u.extract at_ u.size).extract (m' : Int).toNat (u.extract at_ u.size).size)).map (c :: ·)) with | none => (⟨#[]⟩, 4) | some l => fin (acc ++ l))
        rw [Int.toNat_natCast, ext_ext u at_ m' (by omega)]
        unfold decE
        cases dec (n + 1) (u.extract (at_ + m') u.size) with
        | none => rfl
        | some l => simp
    · rw [if_neg (by omega)]
      rw [decE_end _ _ _ (by omega)]
      split <;> rfl
theorem two_ends (q : ByteArray) (h : 2 ≤ q.size) : ∃ (x y : UInt8) (m : List UInt8), q = ⟨(x :: m ++ [y]).toArray⟩ ∧ q.size = m.length + 2 := by
  obtain ⟨d⟩ := q
  obtain ⟨L⟩ := d
  have hL : 2 ≤ L.length := h
  match L, hL with
  | x :: t, hL =>
    have ht : t ≠ [] := fun e => by subst e; simp at hL
    refine ⟨x, t.getLast ht, t.dropLast, ?_, ?_⟩
    · rw [List.cons_append, List.dropLast_concat_getLast ht]
    · show (x :: t).length = _
      simp at hL
      simp
      omega
theorem runquote (q : ByteArray) (hq : q.size < 70368744177664) (k : Nat) (hk : q.size + 6 ≤ k) : tallowref03_Unquote.f k q = quote_Unquote.f q := by
  unfold quote_Unquote.f
  rw [if_pos (by omega)]
  obtain ⟨k, rfl⟩ : ∃ k', k = k' + 1 := ⟨k - 1, by omega⟩
  have hj : tallowref03_Unquote.j0 (k + 1) q true = some (⟨#[]⟩, 4) := by rw [tallowref03_Unquote.j0, if_pos rfl]
  unfold tallowref03_Unquote.f
  by_cases h2 : q.size < 2
  · rw [if_pos (by omega), hj]
    unfold unquote.f
    rw [if_neg]
    rintro ⟨e1, e2⟩
    obtain ⟨⟨L⟩⟩ := q
    have hL : L.length < 2 := h2
    match L, hL with
    | [], _ => simp [Lib.hasPrefix] at e1
    | [x], _ =>
      unfold Lib.trimPrefix at e2
      rw [if_pos e1] at e2
      simp [Lib.hasSuffix, List.isSuffixOf] at e2
  · rw [if_neg (by omega), if_pos (by omega)]
    obtain ⟨x, y, m, rfl, hsz⟩ := two_ends q (by omega)
    have hb0 : bt ⟨(x :: m ++ [y]).toArray⟩ 0 = x.toNat := bt0 _ _
    have hb1 : bt ⟨(x :: m ++ [y]).toArray⟩ ((m.length : Int) + 1) = y.toNat := by
      unfold bt
      have e : ((m.length : Int) + 1).toNat = m.length + 1 := by omega
      rw [dif_pos (by rw [e, hsz]; omega)]
      have : (⟨(x :: m ++ [y]).toArray⟩ : ByteArray)[((m.length : Int) + 1).toNat]'(by rw [e, hsz]; omega) = y := by
        show ((x :: m ++ [y]).toArray)[((m.length : Int) + 1).toNat]'(by rw [e]; simp) = y
        simp only [e]
        simp
      rw [this]
    have hw : wrap64 (((⟨(x :: m ++ [y]).toArray⟩ : ByteArray).size : Int) - 1) = (m.length : Int) + 1 := by rw [w64 _ (by omega) (by omega)]; omega
    rw [hb0, hw, hb1, hsz]
    have hpre : Lib.hasPrefix (x :: m ++ [y]) [34] = (34 == x) := by simp [Lib.hasPrefix, List.isPrefixOf]
    by_cases hx : x = 34
    · subst hx
      rw [if_pos (by decide), if_pos (by omega), if_pos (by omega)]
      by_cases hy : y = 34
      · subst hy
        rw [show (((34 : UInt8).toNat : Int) != 34) = false by decide, unquote_in _ m (by omega) (by omega)]
        rw [tallowref03_Unquote.j0, if_neg (by decide), hsz, w64 _ (by omega) (by omega), if_pos (by omega), if_pos (by omega)]
        have hin : (⟨(34 :: m ++ [34]).toArray⟩ : ByteArray).extract 1 (((m.length + 2 : Nat) : Int) - 1).toNat = ⟨m.toArray⟩ := by
          apply ByteArray.ext
          rw [ByteArray.data_extract]
          apply Array.toList_inj.mp
          rw [Array.toList_extract]
          rw [show (((m.length + 2 : Nat) : Int) - 1).toNat = m.length + 1 by omega]
          simp [List.extract]
        rw [hin]
        obtain ⟨n, rfl⟩ : ∃ n, k = n + 5 := ⟨k - 5, by omega⟩
        have := runq_l ⟨m.toArray⟩ (by rw [sz_arr]; omega) n 0 [] (Nat.zero_le _) (by rw [sz_arr]; omega) (by rw [sz_arr]; simp; omega)
        have he : (⟨m.toArray⟩ : ByteArray).extract 0 (⟨m.toArray⟩ : ByteArray).size = ⟨m.toArray⟩ := by
          apply ByteArray.ext
          rw [ByteArray.data_extract]
          simp [ByteArray.size]
        rw [he] at this
        rw [show (0 : Int) = ((0 : Nat) : Int) from rfl, this, decE_fuel _ _ _ (by rw [sz_arr]; omega), decE_fuel (m.length + 2 + 1) _ _ (by rw [sz_arr]; omega)]
      · have hyn : (y.toNat : Int) ≠ 34 := fun h => hy (by apply UInt8.toNat_inj.mp; have h34 : (34 : UInt8).toNat = 34 := rfl; omega)
        rw [bne_iff_ne.mpr hyn, hj]
        unfold unquote.f
        rw [if_neg]
        rintro ⟨e1, e2⟩
        have e1' : Lib.hasPrefix (34 :: m ++ [y]) [34] = true := e1
        have e3 : Lib.trimPrefix (34 :: m ++ [y]) [34] = m ++ [y] := by unfold Lib.trimPrefix; rw [if_pos e1']; rfl
        have e2' : Lib.hasSuffix (Lib.trimPrefix (34 :: m ++ [y]) [34]) [34] = true := e2
        rw [e3] at e2'
        unfold Lib.hasSuffix at e2'
        rw [List.isSuffixOf_iff_suffix] at e2'
        obtain ⟨t, ht⟩ := e2'
        have := List.append_inj_right' ht rfl
        exact hy (by injection this with h; exact h.symm)
    · have hxn : ¬ (x.toNat : Int) = 34 := fun h => hx (by apply UInt8.toNat_inj.mp; have h34 : (34 : UInt8).toNat = 34 := rfl; omega)
      rw [if_neg hxn, hj]
      unfold unquote.f
      rw [if_neg]
      rintro ⟨e1, _⟩
      have e1' : Lib.hasPrefix (x :: m ++ [y]) [34] = true := e1
      rw [hpre] at e1'
      exact hx (by simpa using (beq_iff_eq.mp e1').symm)
theorem trim_le (q : ByteArray) : (⟨(Lib.trimSuffix (Lib.trimPrefix q.data.toList [34]) [34]).toArray⟩ : ByteArray).size ≤ q.size := by
  rw [sz_arr]
  have e : q.data.toList.length = q.size := Array.length_toList
  have h1 : (Lib.trimPrefix q.data.toList [34]).length ≤ q.data.toList.length := by
    unfold Lib.trimPrefix
    split
    · rw [List.length_drop]; omega
    · omega
  have h2 : ∀ l : List UInt8, (Lib.trimSuffix l [34]).length ≤ l.length := by
    intro l
    unfold Lib.trimSuffix
    split
    · exact List.length_take_le' _ _
    · omega
  have := h2 (Lib.trimPrefix q.data.toList [34])
  omega
theorem unquote_any (q : ByteArray) (hq : q.size < 70368744177664) : ∃ p, quote_Unquote.f q = some p := by
  rw [← runquote q hq (q.size + 6) (Nat.le_refl _)]
  cases h : tallowref03_Unquote.f (q.size + 6) q with
  | some p => exact ⟨p, rfl⟩
  | none =>
    rw [runquote q hq _ (Nat.le_refl _)] at h
    exfalso
    unfold quote_Unquote.f at h
    rw [if_pos (by omega)] at h
    unfold unquote.f at h
    split at h
    · rw [unq_eq _ _ _ ?_ ?_] at h
      · cases h
      · have := trim_le q
        omega
      · have := trim_le q
        simp
        omega
    · cases h
theorem qtext_len (s : ByteArray) : (qtext s).length ≤ 4 * s.size + 2 ∧ 2 ≤ (qtext s).length := by
  unfold qtext
  have := qflat_length s.data.toList
  have e : s.data.toList.length = s.size := Array.length_toList
  simp only [List.length_append, List.length_cons, List.length_nil]
  omega
theorem back (s : ByteArray) (h : s.size ≤ 1000000) : quote_Unquote.f ⟨(qtext s).toArray⟩ = some (fin (bnums s.data.toList)) := by
  have hl := qtext_len s
  unfold quote_Unquote.f
  rw [sz_arr, if_pos (by omega)]
  exact unquote_q _ s (by omega) (by omega)
theorem back_ok (s : ByteArray) (h : s.size ≤ 4096) : quote_Unquote.f ⟨(qtext s).toArray⟩ = some (s, 0) := by
  rw [back s (by omega), fin_nums _ (by rw [Array.length_toList]; exact h)]
theorem ustep_len {u : ByteArray} {c n : Int} (h : ustep u = some (c, n)) : ((qbyte (UInt8.ofNat c.toNat)).length : Int) ≤ n := by
  unfold ustep at h
  have r0 := bt_range u 0
  by_cases cA : bt u 0 < 32 ∨ bt u 0 > 126 ∨ bt u 0 = 34 ∨ (bt u 0 = 92 ∧ u.size < 2)
  · rw [if_pos cA] at h; cases h
  rw [if_neg cA] at h
  by_cases cC : bt u 0 = 92
  · rw [if_pos cC] at h
    by_cases cD : bt u 1 = 120
    · rw [if_pos cD] at h
      by_cases cE : u.size < 4 ∨ digitD (bt u 2) < 0 ∨ digitD (bt u 3) < 0
      · rw [if_pos cE] at h; cases h
      · rw [if_neg cE] at h
        cases h
        have := qbyte_length (UInt8.ofNat (digitD (bt u 2) * 16 + digitD (bt u 3)).toNat)
        omega
    · rw [if_neg cD] at h
      cases hl : longOf (bt u 1) with
      | none => rw [hl] at h; cases h
      | some x =>
        rw [hl] at h
        cases h
        unfold longOf at hl
        repeat' split at hl
        all_goals first | (cases hl; decide) | cases hl
  · rw [if_neg cC] at h
    cases h
    have hn : (UInt8.ofNat (bt u 0).toNat).toNat = (bt u 0).toNat := by
      rw [UInt8.toNat_ofNat']; omega
    have hsh : short ((UInt8.ofNat (bt u 0).toNat).toNat : Int) = none := by
      rw [hn]; unfold short; rw [if_neg (by omega), if_neg (by omega), if_neg (by omega), if_neg (by omega)]
    unfold qbyte
    rw [hsh]
    simp only []
    rw [if_neg (by rw [hn]; omega)]
    exact Int.le_refl _
theorem dec_len : ∀ (k : Nat) (u : ByteArray) (l : List Int), dec k u = some l → ((l.map fun c => UInt8.ofNat c.toNat).flatMap qbyte).length ≤ u.size
  | 0, u, l, h => by cases h
  | k + 1, u, l, h => by
    unfold dec at h
    by_cases h0 : u.size = 0
    · rw [if_pos h0] at h; cases h; simp
    · rw [if_neg h0] at h
      cases hs : ustep u with
      | none => rw [hs] at h; cases h
      | some p =>
        obtain ⟨c, n⟩ := p
        rw [hs] at h
        have h' : (dec k (u.extract n.toNat u.size)).map (c :: ·) = some l := h
        cases hd : dec k (u.extract n.toNat u.size) with
        | none => rw [hd] at h'; cases h'
        | some l2 =>
          rw [hd] at h'
          cases h'
          have hb := ustep_bounds h0 hs
          have hl := ustep_len hs
          have ih := dec_len k _ _ hd
          rw [ByteArray.size_extract] at ih
          rw [List.map_cons, List.flatMap_cons, List.length_append]
          omega
theorem trim_two (L : List UInt8) (h1 : Lib.hasPrefix L [34] = true) (h2 : Lib.hasSuffix (Lib.trimPrefix L [34]) [34] = true) : (Lib.trimSuffix (Lib.trimPrefix L [34]) [34]).length + 2 ≤ L.length := by
  unfold Lib.trimSuffix
  rw [if_pos h2]
  have e : Lib.trimPrefix L [34] = L.drop 1 := by unfold Lib.trimPrefix; rw [if_pos h1]; rfl
  rw [e] at h2 ⊢
  have hs : [34] <:+ L.drop 1 := by rw [← List.isSuffixOf_iff_suffix]; exact h2
  have := hs.length_le
  simp only [List.length_drop, List.length_cons, List.length_nil] at this
  rw [List.length_take, List.length_drop]
  simp only [List.length_cons, List.length_nil]
  omega
theorem unquote_read (q : ByteArray) (hq : q.size < 70368744177664) (s : ByteArray) (e : Int) (h : quote_Unquote.f q = some (s, e)) : (e = 0 → s.size ≤ 4096 ∧ (qtext s).length ≤ q.size) ∧ (e ≠ 0 → s = ⟨#[]⟩) := by
  unfold quote_Unquote.f at h
  rw [if_pos (by omega)] at h
  unfold unquote.f at h
  by_cases hps : Lib.hasPrefix q.data.toList [34] = true ∧ Lib.hasSuffix (Lib.trimPrefix q.data.toList [34]) [34] = true
  · rw [if_pos hps] at h
    have ht := trim_two _ hps.1 hps.2
    have hql : q.data.toList.length = q.size := Array.length_toList
    rw [unq_eq _ _ _ (by rw [sz_arr]; omega) (by rw [sz_arr]; simp; omega)] at h
    have h' := Option.some.inj h
    clear h
    unfold decE at h'
    cases hd : dec (q.size + 1) ⟨(Lib.trimSuffix (Lib.trimPrefix q.data.toList [34]) [34]).toArray⟩ with
    | none =>
      rw [hd] at h'
      obtain ⟨rfl, rfl⟩ := Prod.mk.inj h'
      exact ⟨fun h => absurd h (by decide), fun _ => rfl⟩
    | some l =>
      rw [hd] at h'
      have hl := dec_len _ _ _ hd
      rw [sz_arr] at hl
      have h2 : fin l = (s, e) := h'
      unfold fin at h2
      by_cases h4 : l.length > 4096
      · rw [if_pos h4] at h2
        obtain ⟨rfl, rfl⟩ := Prod.mk.inj h2
        exact ⟨fun h => absurd h (by decide), fun _ => rfl⟩
      · rw [if_neg h4] at h2
        obtain ⟨rfl, rfl⟩ := Prod.mk.inj h2
        refine ⟨fun _ => ⟨by rw [strOfNums_size]; omega, ?_⟩, fun h => absurd rfl h⟩
        unfold qtext
        rw [strOfNums_data]
        simp only [List.length_append, List.length_cons, List.length_nil]
        omega
  · rw [if_neg hps] at h
    obtain ⟨rfl, rfl⟩ := Prod.mk.inj (Option.some.inj h)
    exact ⟨fun h => absurd h (by decide), fun _ => rfl⟩
theorem hexd_plain (n : Nat) (h : n < 16) : 48 ≤ (hexd n).toNat ∧ (hexd n).toNat ≤ 102 ∧ hexd n ≠ 34 ∧ hexd n ≠ 92 := by
  have : ∀ i : Fin 16, 48 ≤ (hexd i.val).toNat ∧ (hexd i.val).toNat ≤ 102 ∧ hexd i.val ≠ 34 ∧ hexd i.val ≠ 92 := by decide +kernel
  exact this ⟨n, h⟩
def qbL (s : ByteArray) : List UInt8 := s.data.toList.flatMap qbyte
def unqL (u : List UInt8) : ByteArray × Int := if u.length < 70368744177664 then (quote_Unquote.f ⟨u.toArray⟩).getD (⟨#[]⟩, 4) else (⟨#[]⟩, 4)
theorem unqL_eq {q : ByteArray} (hq : q.size < 70368744177664) : quote_Unquote.f q = some (unqL q.data.toList) := by
  obtain ⟨p, hp⟩ := unquote_any q hq
  have e : (⟨q.data.toList.toArray⟩ : ByteArray) = q := by cases q; simp
  unfold unqL
  rw [if_pos (by rw [Array.length_toList]; exact hq), e, hp]
  rfl
theorem qend_plain {c : UInt8} (h10 : c ≠ 10) (h34 : c ≠ 34) (h92 : c ≠ 92) (r : List UInt8) : qend (c :: r) = (qend r).map (· + 1) := by
  conv => lhs; unfold qend
  rw [if_neg h10, if_neg h34, if_neg h92]
theorem qend_esc {d : UInt8} (h : d ≠ 10) (r : List UInt8) : qend (92 :: d :: r) = (qend r).map (· + 2) := by
  conv => lhs; unfold qend
  rw [if_neg (by decide), if_neg (by decide), if_pos rfl]
  show (if d = 10 then none else (qend r).map (· + 2)) = _
  rw [if_neg h]
theorem qend_byte (c : UInt8) (r : List UInt8) : qend (qbyte c ++ r) = (qend r).map (· + (qbyte c).length) := by
  cases e : short c.toNat with
  | some x =>
    have hq : qbyte c = [92, UInt8.ofNat x.toNat] := by unfold qbyte; rw [e]
    have hx : (UInt8.ofNat x.toNat) ≠ 10 := by
      unfold short at e
      repeat' split at e
      all_goals first | (cases e; decide) | cases e
    rw [hq]
    exact qend_esc hx r
  | none =>
    have h34 : c ≠ 34 := fun h => by rw [h, show short ((34 : UInt8).toNat : Int) = some 34 from rfl] at e; cases e
    have h92 : c ≠ 92 := fun h => by rw [h, show short ((92 : UInt8).toNat : Int) = some 92 from rfl] at e; cases e
    by_cases hr : c.toNat < 32 ∨ 126 < c.toNat
    · have hc := c.toNat_lt
      have hq : qbyte c = [92, 120, hexd (c.toNat / 16), hexd (c.toNat % 16)] := by unfold qbyte; rw [e]; exact if_pos hr
      have p1 := hexd_plain (c.toNat / 16) (by omega)
      have p2 := hexd_plain (c.toNat % 16) (by omega)
      rw [hq]
      generalize hexd (c.toNat / 16) = d1 at *
      generalize hexd (c.toNat % 16) = d2 at *
      have n1 : d1 ≠ 10 := fun h => by subst h; exact absurd p1.1 (by decide)
      have n2 : d2 ≠ 10 := fun h => by subst h; exact absurd p2.1 (by decide)
      show qend (92 :: 120 :: d1 :: d2 :: r) = _
      rw [qend_esc (by decide), qend_plain n1 p1.2.2.1 p1.2.2.2, qend_plain n2 p2.2.2.1 p2.2.2.2]
      cases qend r <;> rfl
    · have hq : qbyte c = [c] := by unfold qbyte; rw [e]; exact if_neg hr
      have h10 : c ≠ 10 := fun h => by subst h; exact hr (.inl (by decide))
      rw [hq]
      exact qend_plain h10 h34 h92 r
theorem qend_all : ∀ (l r : List UInt8), qend (l.flatMap qbyte ++ 34 :: r) = some (l.flatMap qbyte).length
  | [], r => by
    rw [List.flatMap_nil, List.nil_append]
    unfold qend
    rw [if_neg (by decide), if_pos rfl]; rfl
  | c :: l, r => by
    rw [List.flatMap_cons, List.append_assoc, qend_byte, qend_all l r, List.length_append]
    show some ((l.flatMap qbyte).length + (qbyte c).length) = some _
    congr 1; omega
theorem data_mk (l : List UInt8) : (⟨l.toArray⟩ : ByteArray).data.toList = l := by simp
theorem qtext_eq (s : ByteArray) : (34 :: (qbL s ++ [34])) = qtext s := by unfold qbL qtext; simp
theorem quotesOk : QOk unqL qbL := by
  refine ⟨fun s r => qend_all _ r, fun s hs => ?_, fun q t h => ?_⟩
  · have hl := qtext_len s
    unfold unqL
    rw [qtext_eq, if_pos (by omega), back_ok s hs]
    rfl
  · unfold unqL at h
    by_cases hq : q.length < 70368744177664
    · rw [if_pos hq] at h
      have hsz : (⟨q.toArray⟩ : ByteArray).size = q.length := by rw [sz_arr]
      obtain ⟨p, hp⟩ := unquote_any ⟨q.toArray⟩ (by rw [hsz]; exact hq)
      rw [hp] at h
      have h : p = (t, 0) := h
      subst h
      have := (unquote_read ⟨q.toArray⟩ (by rw [hsz]; exact hq) t 0 hp).1 rfl
      rw [hsz, ← qtext_eq] at this
      simp only [List.length_cons, List.length_append, List.length_nil] at this
      exact ⟨this.1, by omega⟩
    · rw [if_neg hq] at h; cases h
end Go.Proofs.YtlbaejihlcfpeaaGreatDoor.Z
end
