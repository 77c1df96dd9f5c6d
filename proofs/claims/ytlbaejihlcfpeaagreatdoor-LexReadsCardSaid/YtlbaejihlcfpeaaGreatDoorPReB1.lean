import Derived.LaidMore
import Derived.LaidHandle
import Derived.Stop.Joined
import Derived.Lib.IfaceEq
import Derived.Lib.IndexMore
import Derived.Shelf.Abstract
import Derived.LaidEql
import Derived.Stop.Asserts
import Derived.RowKitTokens
import Derived.Lib.LaidTab
import Derived.Lib.AppendIntMem
import Derived.Stop.LaidErr
import Derived.WalkKit
import Derived.Deep.RegionLaw
import Derived.Deep.Cut
import Derived.WalkSpells
import Derived.Maps.OwnOps
import Derived.Maps.OwnSet
import Derived.Maps.Views
import Derived.Maps.RangeWalk
import Derived.Maps.Own
import Derived.Test.YtlbaejihlcfpeaaGreatDoorPReA5
import Derived.Test.YtlbaejihlcfpeaaGreatDoorPReGxF22
import Derived.Lib.Hide
set_option linter.unusedVariables false
set_option linter.unusedSimpArgs false
section
namespace Go.Proofs.YtlbaejihlcfpeaaGreatDoor.G
open Go.Proofs.YtlbaejihlcfpeaaGreatDoor.G Go.Proofs.YtlbaejihlcfpeaaGreatDoor.Z
open Go.Shelf Go.Extern.Stop Go.Stop Go.Extern Go.RowKit Go.Proofs.YtlbaejihlcfpeaaGreatDoorW.PrintWords Go.Proofs.YtlbaejihlcfpeaaGreatDoorW.PrintLast Go.Proofs.YtlbaejihlcfpeaaGreatDoorW.PrintMore
set_option linter.unusedVariables false
set_option linter.unusedSimpArgs false
theorem let_int (c : UInt8) : tallowref04_letter.f (c.toNat : Int) = some (isLet c) := by
  have := forall_u8 (p := fun c => tallowref04_letter.f (c.toNat : Int) == some (isLet c)) (by kernel_rfl) c
  exact beq_iff_eq.mp this
theorem dig_int (c : UInt8) : tallowref04_digit.f (c.toNat : Int) = some (isDig c) := by
  have := forall_u8 (p := fun c => tallowref04_digit.f (c.toNat : Int) == some (isDig c)) (by kernel_rfl) c
  exact beq_iff_eq.mp this
theorem bt_ix (s : ByteArray) (i : Nat) (h : i < s.size) : bt s (i : Int) = ((s[i]'h).toNat : Int) := by
  have := bt_at s (i : Int) (by simpa using h)
  rw [← this]
  rfl
theorem run_ev (s : ByteArray) (i : Nat) (hs : s.size ≤ 140737488353280) : ∀ (d n : Nat), i + n + d = s.size → Ev (fun k => tallowref04_run.l0 k s i n) ((n + ((s.data.toList.drop (i + n)).takeWhile isAl).length : Nat) : Int)
  | 0, n, h => by
    refine Ev.step (f := fun _ => some (n : Int)) (fun k => ?_) (Ev.eq (Ev.now _) ?_)
    · rw [tallowref04_run.l0, w_id (by omega), if_neg (by omega)]
    · rw [List.drop_eq_nil_of_le (by rw [size_data]; omega)]; simp
  | d + 1, n, h => by
    have hl : i + n < s.size := by omega
    have ih := run_ev s i hs d (n + 1) (by omega)
    have e1 : (i : Int) + (n : Int) = ((i + n : Nat) : Int) := by omega
    have e2 : (n : Int) + 1 = ((n + 1 : Nat) : Int) := by omega
    rw [drop_head s (i + n) hl]
    generalize hc : s[i + n]'hl = c
    have hb : bt s ((i + n : Nat) : Int) = (c.toNat : Int) := by rw [bt_ix s _ hl, hc]
    by_cases h1 : isLet c = true
    · refine Ev.step (f := fun k => tallowref04_run.l0 k s i ((n + 1 : Nat) : Int)) (fun k => ?_) (Ev.eq ih ?_)
      · rw [tallowref04_run.l0, w_id (by omega), if_pos (by omega), if_pos (by omega), e1, hb, let_int, Option.bind_some, if_pos h1, w_id (by omega), e2]
      · rw [tw_cons (al_let h1), List.length_cons, show i + (n + 1) = i + n + 1 by omega]; omega
    · by_cases h2 : isDig c = true
      · refine Ev.step (f := fun k => tallowref04_run.l0 k s i ((n + 1 : Nat) : Int)) (fun k => ?_) (Ev.eq ih ?_)
        · rw [tallowref04_run.l0, w_id (by omega), if_pos (by omega), if_pos (by omega), e1, hb, let_int, Option.bind_some, if_neg h1, dig_int, Option.bind_some, if_pos h2, w_id (by omega), e2]
        · rw [tw_cons (al_dig h2), List.length_cons, show i + (n + 1) = i + n + 1 by omega]; omega
      · refine Ev.step (f := fun _ => some (n : Int)) (fun k => ?_) (Ev.eq (Ev.now _) ?_)
        · rw [tallowref04_run.l0, w_id (by omega), if_pos (by omega), if_pos (by omega), e1, hb, let_int, Option.bind_some, if_neg h1, dig_int, Option.bind_some, if_neg h2]
        · have ha : isAl c = false := by unfold isAl; rw [Bool.eq_false_iff.mpr h1, Bool.eq_false_iff.mpr h2]; rfl
          rw [List.takeWhile_cons_of_neg (by rw [ha]; decide)]; simp
theorem ext_mid (s : ByteArray) (i n : Nat) (h : i + n ≤ s.size) : (s.extract i (i + n)).data.toList = (s.data.toList.drop i).take n := by
  rw [ByteArray.data_extract, Array.toList_extract, List.extract_eq_take_drop]
  congr 1; omega
theorem mk_mid (s : ByteArray) (i n : Nat) (h : i + n ≤ s.size) : (⟨((s.data.toList.drop i).take n).toArray⟩ : ByteArray) = s.extract i (i + n) := data_inj (by rw [ext_mid s i n h])
theorem quoted_ev (s : ByteArray) (i : Nat) (hs : s.size ≤ 140737488353280) : ∀ (m d n : Nat), d ≤ m → i + 1 + n + d = s.size → Ev (fun k => tallowref04_quoted.l0 k s i ((i + 1 + n : Nat) : Int)) (match qend (s.data.toList.drop (i + 1 + n)) with | none => (0 : Int) | some j => ((n + j + 2 : Nat) : Int))
  | m, 0, n, _, h => by
    refine Ev.step (f := fun _ => some (0 : Int)) (fun k => ?_) (Ev.eq (Ev.now _) ?_)
    · rw [tallowref04_quoted.l0, if_neg (by omega)]
    · rw [List.drop_eq_nil_of_le (by rw [size_data]; omega)]; rfl
  | 0, d + 1, n, hm, h => by omega
  | m + 1, d + 1, n, hm, h => by
    have hl : i + 1 + n < s.size := by omega
    have e1 : ((i + 1 + n : Nat) : Int) + 1 = ((i + 1 + (n + 1) : Nat) : Int) := by omega
    have e2 : ((i + 1 + (n + 1) : Nat) : Int) + 1 = ((i + 1 + (n + 2) : Nat) : Int) := by omega
    rw [drop_head s (i + 1 + n) hl]
    generalize hc : s[i + 1 + n]'hl = c
    have hb : bt s ((i + 1 + n : Nat) : Int) = (c.toNat : Int) := by rw [bt_ix s _ hl, hc]
    have nn : ∀ d : UInt8, c ≠ d → ¬ (c.toNat : Int) = (d.toNat : Int) := fun d h h2 => h (UInt8.toNat_inj.mp (by omega))
    by_cases h10 : c = 10
    · subst h10
      refine Ev.step (f := fun _ => some (0 : Int)) (fun k => ?_) (Ev.eq (Ev.now _) ?_)
      · rw [tallowref04_quoted.l0, if_pos (by omega), if_pos (by omega), hb, if_pos (by rfl)]
      · rw [qend_nil_nl (.inr ⟨_, rfl⟩)]
    · have m10 : ¬ (c.toNat : Int) = 10 := nn 10 h10
      by_cases h34 : c = 34
      · subst h34
        refine Ev.step (f := fun _ => some ((n + 0 + 2 : Nat) : Int)) (fun k => ?_) (Ev.eq (Ev.now _) ?_)
        · rw [tallowref04_quoted.l0, if_pos (by omega), if_pos (by omega), hb, if_neg (by decide), if_pos (by rfl), w_id (x := ((i + 1 + n : Nat) : Int) + 1) (by omega), w_id (by omega)]
          congr 1; omega
        · have : qend (34 :: List.drop (i + 1 + n + 1) s.data.toList) = some 0 := by
            unfold qend
            rw [if_neg (by decide), if_pos rfl]
          rw [this]
      · have m34 : ¬ (c.toNat : Int) = 34 := nn 34 h34
        by_cases h92 : c = 92
        · subst h92
          by_cases hl2 : i + 1 + (n + 1) < s.size
          · rw [show i + 1 + n + 1 = i + 1 + (n + 1) by omega, drop_head s (i + 1 + (n + 1)) hl2]
            generalize hd : s[i + 1 + (n + 1)]'hl2 = d2
            have hb2 : bt s ((i + 1 + (n + 1) : Nat) : Int) = (d2.toNat : Int) := by rw [bt_ix s _ hl2, hd]
            by_cases d10 : d2 = 10
            · subst d10
              refine Ev.step (f := fun _ => some (0 : Int)) (fun k => ?_) (Ev.eq (Ev.now _) ?_)
              · rw [tallowref04_quoted.l0, if_pos (by omega), if_pos (by omega), hb, if_neg (by decide), if_neg (by decide), if_pos (by rfl), w_id (x := ((i + 1 + n : Nat) : Int) + 1) (by omega), e1, if_pos (by omega), if_pos (by omega), hb2, if_pos (by rfl)]
              · have : qend (92 :: 10 :: List.drop (i + 1 + (n + 1) + 1) s.data.toList) = none := by
                  unfold qend
                  rw [if_neg (by decide), if_neg (by decide), if_pos rfl]
                  rfl
                rw [this]
            · have md : ¬ (d2.toNat : Int) = 10 := fun h2 => d10 (UInt8.toNat_inj.mp (by have e : (10 : UInt8).toNat = 10 := rfl; omega))
              have ih := quoted_ev s i hs m (d - 1) (n + 2) (by omega) (by omega)
              refine Ev.step (f := fun k => tallowref04_quoted.l0 k s i ((i + 1 + (n + 2) : Nat) : Int)) (fun k => ?_) (Ev.eq ih ?_)
              · rw [tallowref04_quoted.l0, if_pos (by omega), if_pos (by omega), hb, if_neg (by decide), if_neg (by decide), if_pos (by rfl), w_id (x := ((i + 1 + n : Nat) : Int) + 1) (by omega), e1, if_pos (by omega), if_pos (by omega), hb2, if_neg md, w_id (by omega), e2]
              · rw [qend_esc d10, show i + 1 + (n + 1) + 1 = i + 1 + (n + 2) by omega]
                cases qend (s.data.toList.drop (i + 1 + (n + 2))) with
                | none => rfl
                | some j => show ((n + 2 + j + 2 : Nat) : Int) = ((n + (j + 2) + 2 : Nat) : Int); congr 1; omega
          · have hd0 : d = 0 := by omega
            subst hd0
            have ih : Ev (fun k => tallowref04_quoted.l0 k s i ((i + 1 + (n + 2) : Nat) : Int)) (0 : Int) := by
              refine Ev.step (f := fun _ => some (0 : Int)) (fun k => ?_) (Ev.now _)
              rw [tallowref04_quoted.l0, if_neg (by omega)]
            refine Ev.step (f := fun k => tallowref04_quoted.l0 k s i ((i + 1 + (n + 2) : Nat) : Int)) (fun k => ?_) (Ev.eq ih ?_)
            · rw [tallowref04_quoted.l0, if_pos (by omega), if_pos (by omega), hb, if_neg (by decide), if_neg (by decide), if_pos (by rfl), w_id (x := ((i + 1 + n : Nat) : Int) + 1) (by omega), e1, if_neg (by omega), w_id (by omega), e2]
            · have hz : List.drop (i + 1 + n + 1) s.data.toList = [] := List.drop_eq_nil_of_le (by rw [size_data]; omega)
              rw [hz]
              have : qend [92] = none := rfl
              rw [this]
        · have m92 : ¬ (c.toNat : Int) = 92 := nn 92 h92
          have ih := quoted_ev s i hs m d (n + 1) (by omega) (by omega)
          refine Ev.step (f := fun k => tallowref04_quoted.l0 k s i ((i + 1 + (n + 1) : Nat) : Int)) (fun k => ?_) (Ev.eq ih ?_)
          · rw [tallowref04_quoted.l0, if_pos (by omega), if_pos (by omega), hb, if_neg m10, if_neg m34, if_neg m92, w_id (by omega), e1]
          · rw [qend_plain h10 h34 h92, show i + 1 + n + 1 = i + 1 + (n + 1) by omega]
            cases qend (s.data.toList.drop (i + 1 + (n + 1))) with
            | none => rfl
            | some j => show ((n + 1 + j + 2 : Nat) : Int) = ((n + (j + 1) + 2 : Nat) : Int); congr 1; omega
abbrev RT := Int × ByteArray × Int × Int × Int × Int
def badT (e : Int) : RT := (0, ⟨#[]⟩, 0, 0, 0, e)
def refW (r : RT) (W : Wd) : Prop := r.2.2.2.2.2 = W.e ∧ (W.e = 0 → r = (W.k, W.t, W.n, 0, (W.z : Int), 0))
theorem refW_bad {e : Int} (h : e ≠ 0) : refW (badT e) (badW e) := ⟨rfl, fun h2 => absurd h2 h⟩
theorem numj_ev (s : ByteArray) (i : Nat) (hs : s.size ≤ 140737488353280) (n : Nat) (hn : i + n ≤ s.size) (hN : ((s.data.toList.drop i).takeWhile isDig).length = n) :
    ∃ r, Ev (fun k => tallowref04_number.j1 k s i n) r ∧ refW r (numW readL (s.data.toList.drop i)) := by
  have ht : (s.data.toList.drop i).takeWhile isDig = (s.data.toList.drop i).take n := by rw [← hN, tw_take]
  have hx := ext_mid s i n hn
  have hm := mk_mid s i n hn
  have hh : ((s.data.toList.drop i).dropWhile isDig).head? = (s.data.toList.drop i)[n]? := by rw [dw_head, hN]
  have hp := r_parse (s.extract i (i + n)) (by rw [ByteArray.size_extract]; omega)
  rw [hx] at hp
  have e1 : (i : Int) + (n : Int) = ((i + n : Nat) : Int) := by omega
  have hlen : ((s.data.toList.drop i).take n).length = n := by rw [← ht, hN]
  unfold numW
  rw [hh, ht, hm, hlen]
  generalize readL ((s.data.toList.drop i).take n) = rd at hp ⊢
  obtain ⟨v, e⟩ := rd
  dsimp only at hp ⊢
  have key : ∀ r : RT, Ev (fun k => if e = 4 then some (badT 14) else if ((i + n : Nat) : Int) < (s.size : Int) then (tallowref04_letter.f (bt s ((i + n : Nat) : Int))).bind fun t108 => if t108 = true then some (badT 14) else some ((2, s.extract i (i + n), v, 0, (n : Int), e) : RT) else some ((2, s.extract i (i + n), v, 0, (n : Int), e) : RT)) r → Ev (fun k => tallowref04_number.j1 k s i n) r := by
    intro r hr
    refine Ev.step (f := fun k => (tallowref01_Parse.f k (s.extract i (i + n))).bind fun bt106 => if bt106.2 = 4 then some (badT 14) else if ((i + n : Nat) : Int) < (s.size : Int) then (tallowref04_letter.f (bt s ((i + n : Nat) : Int))).bind fun t108 => if t108 = true then some (badT 14) else some ((2, s.extract i (i + n), bt106.1, 0, (n : Int), bt106.2) : RT) else some ((2, s.extract i (i + n), bt106.1, 0, (n : Int), bt106.2) : RT)) (fun k => ?_) (Ev.bind hp hr)
    rw [tallowref04_number.j1, w_id (by omega), if_pos (by omega), if_pos (by omega), if_pos (by omega), e1]
    have hnn : (0 : Int) ≤ ((i + n : Nat) : Int) := by omega
    simp only [Int.toNat_natCast, if_pos hnn]
    rfl
  by_cases h4 : e = 4
  · refine ⟨badT 14, key _ (Ev.congr (fun k => if_pos h4) (Ev.now _)), ?_⟩
    rw [if_pos (.inl h4)]
    exact refW_bad (by decide)
  · by_cases hl : i + n < s.size
    · have hg : (s.data.toList.drop i)[n]? = some (s[i + n]'hl) := by rw [List.getElem?_drop]; exact get_data s (i + n) hl
      rw [hg, Option.map_some]
      generalize hc : s[i + n]'hl = c
      have hb : bt s ((i + n : Nat) : Int) = (c.toNat : Int) := by rw [bt_ix s _ hl, hc]
      rw [hb, let_int] at key
      by_cases h1 : isLet c = true
      · refine ⟨badT 14, key _ (Ev.congr (fun k => by rw [if_neg h4, if_pos (by omega), Option.bind_some, if_pos h1]) (Ev.now _)), ?_⟩
        rw [if_pos (.inr (by rw [h1]))]
        exact refW_bad (by decide)
      · refine ⟨_, key _ (Ev.congr (fun k => by rw [if_neg h4, if_pos (by omega), Option.bind_some, if_neg h1]) (Ev.now _)), ?_⟩
        rw [if_neg (by rintro (h | h); exact h4 h; exact h1 (Option.some.inj h))]
        by_cases h0 : e = 0
        · rw [if_neg (fun h => h h0)]
          exact ⟨h0, fun _ => by rw [h0]⟩
        · rw [if_pos h0]
          exact ⟨rfl, fun h => absurd h h0⟩
    · rw [List.getElem?_eq_none (by rw [List.length_drop, size_data]; omega)]
      refine ⟨_, key _ (Ev.congr (fun k => by rw [if_neg h4, if_neg (by omega)]) (Ev.now _)), ?_⟩
      rw [if_neg (by rintro (h | h); exact h4 h; cases h)]
      by_cases h0 : e = 0
      · rw [if_neg (fun h => h h0)]
        exact ⟨h0, fun _ => by rw [h0]⟩
      · rw [if_pos h0]
        exact ⟨rfl, fun h => absurd h h0⟩
theorem numl_ev (s : ByteArray) (i : Nat) (hs : s.size ≤ 140737488353280) : ∀ (d n : Nat), i + n + d = s.size → (s.data.toList.drop i).takeWhile isDig = (s.data.toList.drop i).take n ++ ((s.data.toList.drop i).drop n).takeWhile isDig →
    ∃ r, Ev (fun k => tallowref04_number.l0 k s i n) r ∧ refW r (numW readL (s.data.toList.drop i))
  | 0, n, h, ht => by
    have hN : ((s.data.toList.drop i).takeWhile isDig).length = n := by
      have := tw_end ht (by rw [List.length_drop, size_data]; omega)
      rw [this, List.length_drop, size_data]; omega
    obtain ⟨r, h1, h2⟩ := numj_ev s i hs n (by omega) hN
    refine ⟨r, Ev.step (f := fun k => tallowref04_number.j1 k s i n) (fun k => ?_) h1, h2⟩
    rw [tallowref04_number.l0, w_id (by omega), if_neg (by omega)]
  | d + 1, n, h, ht => by
    have hl : i + n < s.size := by omega
    have e1 : (i : Int) + (n : Int) = ((i + n : Nat) : Int) := by omega
    have e2 : (n : Int) + 1 = ((n + 1 : Nat) : Int) := by omega
    have hg : (s.data.toList.drop i)[n]? = some (s[i + n]'hl) := by rw [List.getElem?_drop]; exact get_data s (i + n) hl
    generalize hc : s[i + n]'hl = c at hg
    have hb : bt s ((i + n : Nat) : Int) = (c.toNat : Int) := by rw [bt_ix s _ hl, hc]
    by_cases h1 : isDig c = true
    · obtain ⟨r, h3, h4⟩ := numl_ev s i hs d (n + 1) (by omega) (tw_step ht hg h1)
      refine ⟨r, Ev.step (f := fun k => tallowref04_number.l0 k s i ((n + 1 : Nat) : Int)) (fun k => ?_) h3, h4⟩
      rw [tallowref04_number.l0, w_id (by omega), if_pos (by omega), if_pos (by omega), e1, hb, dig_int, Option.bind_some, if_pos h1, w_id (by omega), e2]
    · have hN := tw_stop ht hg (Bool.eq_false_iff.mpr h1)
      obtain ⟨r, h3, h4⟩ := numj_ev s i hs n (by omega) hN
      refine ⟨r, Ev.step (f := fun k => tallowref04_number.j1 k s i n) (fun k => ?_) h3, h4⟩
      rw [tallowref04_number.l0, w_id (by omega), if_pos (by omega), if_pos (by omega), e1, hb, dig_int, Option.bind_some, if_neg h1]
theorem number_ev (s : ByteArray) (i : Nat) (hi : i < s.size) (hs : s.size ≤ 140737488353280) : ∃ r, Ev (fun k => tallowref04_number.f k s i) r ∧ refW r (numW readL (s.data.toList.drop i)) :=
  numl_ev s i hs (s.size - i) 0 (by omega) (tw_start _)
theorem str_ev (s : ByteArray) (i : Nat) (hi : i < s.size) (hs : s.size ≤ 100000000) : ∃ r, Ev (fun k => tallowref04_str.f k s i) r ∧ refW r (strW unqL (s.data.toList.drop i)) := by
  have hq := quoted_ev s i (by omega) (s.size - (i + 1)) (s.size - (i + 1)) 0 (Nat.le_refl _) (by omega)
  have hqf : Ev (fun k => tallowref04_quoted.f k s i) (match qend (s.data.toList.drop (i + 1)) with | none => (0 : Int) | some j => ((j + 2 : Nat) : Int)) := by
    refine Ev.congr (g := fun k => tallowref04_quoted.f k s i) (f := fun k => tallowref04_quoted.l0 k s i ((i + 1 + 0 : Nat) : Int)) (fun k => ?_) (Ev.eq hq ?_)
    · unfold tallowref04_quoted.f
      rw [w_id (by omega)]; rfl
    · rw [Nat.add_zero]
      cases qend (s.data.toList.drop (i + 1)) with
      | none => rfl
      | some j => show ((0 + j + 2 : Nat) : Int) = _; congr 1; omega
  have hd : (s.data.toList.drop i).drop 1 = s.data.toList.drop (i + 1) := by rw [List.drop_drop]
  unfold strW
  rw [hd]
  cases hj : qend (s.data.toList.drop (i + 1)) with
  | none =>
    rw [hj] at hqf
    refine ⟨badT 14, ?_, refW_bad (by decide)⟩
    unfold tallowref04_str.f
    exact Ev.bind hqf (Ev.congr (fun k => if_pos rfl) (Ev.now _))
  | some j =>
    rw [hj] at hqf
    dsimp only at hqf ⊢
    have hjl := qend_lt _ _ _ (Nat.le_refl _) hj
    rw [List.length_drop, size_data] at hjl
    have hle : i + (j + 2) ≤ s.size := by omega
    have hx := ext_mid s i (j + 2) hle
    have hu : Ev (fun k => tallowref03_Unquote.f k (s.extract i (i + (j + 2)))) (unqL ((s.data.toList.drop i).take (j + 2))) := by
      have hsz : (s.extract i (i + (j + 2))).size < 70368744177664 := by rw [ByteArray.size_extract]; omega
      rw [← hx]
      exact ⟨(s.extract i (i + (j + 2))).size + 6, fun k hk => (runquote _ hsz k hk).trans (unqL_eq hsz)⟩
    generalize unqL ((s.data.toList.drop i).take (j + 2)) = q at hu ⊢
    obtain ⟨t, e⟩ := q
    dsimp only at hu ⊢
    have e1 : (i : Int) + ((j + 2 : Nat) : Int) = ((i + (j + 2) : Nat) : Int) := by omega
    have key : ∀ r : RT, Ev (fun k => if e = 4 then some (badT 14) else some ((3, t, 0, 0, ((j + 2 : Nat) : Int), e) : RT)) r → Ev (fun k => tallowref04_str.f k s i) r := by
      intro r hr
      unfold tallowref04_str.f
      refine Ev.bind hqf ?_
      refine Ev.congr (f := fun k => (tallowref03_Unquote.f k (s.extract i (i + (j + 2)))).bind fun bt120 => if bt120.2 = 4 then some (badT 14) else some ((3, bt120.1, 0, 0, ((j + 2 : Nat) : Int), bt120.2) : RT)) (fun k => ?_) (Ev.bind hu hr)
      rw [if_neg (by omega), w_id (by omega), if_pos (by omega), if_pos (by omega), if_pos (by omega), e1]
      simp only [Int.toNat_natCast]
      rfl
    by_cases h4 : e = 4
    · refine ⟨badT 14, key _ (Ev.congr (fun k => if_pos h4) (Ev.now _)), ?_⟩
      rw [if_neg (by omega), if_pos h4]
      exact refW_bad (by decide)
    · refine ⟨_, key _ (Ev.congr (fun k => if_neg h4) (Ev.now _)), ?_⟩
      by_cases h0 : e = 0
      · rw [if_pos h0]
        exact ⟨h0, fun _ => by rw [h0]⟩
      · rw [if_neg h0, if_neg h4]
        exact ⟨rfl, fun h => absurd h h0⟩
theorem word_ev (s : ByteArray) (i : Nat) (hi : i < s.size) (hs : s.size ≤ 100000000) : ∃ r, Ev (fun k => tallowref04_word.f k s i) r ∧ refW r (wordW readL unqL (s.data.toList.drop i)) := by
  have hb : bt s (i : Int) = ((s[i]'hi).toNat : Int) := bt_ix s i hi
  have hd := drop_head s i hi
  have hsg : tallowref04_sign.f s (i : Int) = some ((signF (s.data.toList.drop i) : Nat) : Int) := by
    unfold tallowref04_sign.f
    rw [if_pos ⟨by omega, by omega, by omega⟩]
    simp
  generalize hc : s[i]'hi = c at hb hd
  have key : ∀ r : RT, Ev (fun k => if isLet c = true then (tallowref04_run.f k s i).bind fun t124 => (if t124 > 24 then some (badT 14) else (if (i : Int) ≤ (wrap64 ((i : Int) + t124)) then (if (wrap64 ((i : Int) + t124)) ≤ (s.size : Int) then ((tallowref04_Reserved.f (s.extract (i : Int).toNat ((wrap64 ((i : Int) + t124)) : Int).toNat)).bind fun t125 => (if t125 = true then some ((4, s.extract (i : Int).toNat ((wrap64 ((i : Int) + t124)) : Int).toNat, 0, 0, t124, 0) : RT) else some ((1, s.extract (i : Int).toNat ((wrap64 ((i : Int) + t124)) : Int).toNat, 0, 0, t124, 0) : RT))) else none) else none))
      else if isDig c = true then tallowref04_number.f k s i else if (c.toNat : Int) = 34 then tallowref04_str.f k s i
      else if ((signF (s.data.toList.drop i) : Nat) : Int) = 0 then some (badT 14) else (if (i : Int) ≤ (wrap64 ((i : Int) + ((signF (s.data.toList.drop i) : Nat) : Int))) then (if (wrap64 ((i : Int) + ((signF (s.data.toList.drop i) : Nat) : Int))) ≤ (s.size : Int) then some ((4, s.extract (i : Int).toNat ((wrap64 ((i : Int) + ((signF (s.data.toList.drop i) : Nat) : Int))) : Int).toNat, 0, 0, ((signF (s.data.toList.drop i) : Nat) : Int), 0) : RT) else none) else none)) r → Ev (fun k => tallowref04_word.f k s i) r := by
    intro r hr
    refine Ev.congr (fun k => ?_) hr
    unfold tallowref04_word.f
    rw [if_pos (by omega), if_pos (by omega), hb, let_int, Option.bind_some, dig_int, hsg]
    simp only [Option.bind_some]
    by_cases h1 : isLet c = true
    · rw [if_pos h1, if_pos h1]; rfl
    · rw [if_neg h1, if_neg h1]
      by_cases h2 : isDig c = true
      · rw [if_pos h2, if_pos h2]
        cases tallowref04_number.f k s (i : Int) <;> rfl
      · rw [if_neg h2, if_neg h2]
        by_cases h3 : (c.toNat : Int) = 34
        · rw [if_pos h3, if_pos h3]
          cases tallowref04_str.f k s (i : Int) <;> rfl
        · rw [if_neg h3, if_neg h3]; rfl
  have hw : wordW readL unqL (s.data.toList.drop i) = if isLet c then (if ((s.data.toList.drop i).takeWhile isAl).length > 24 then badW 14 else ⟨0, if resF ((s.data.toList.drop i).takeWhile isAl) then 4 else 1, ⟨((s.data.toList.drop i).takeWhile isAl).toArray⟩, 0, ((s.data.toList.drop i).takeWhile isAl).length⟩)
    else if isDig c then numW readL (s.data.toList.drop i)
    else if c = 34 then strW unqL (s.data.toList.drop i)
    else if signF (s.data.toList.drop i) = 0 then badW 14 else ⟨0, 4, ⟨((s.data.toList.drop i).take (signF (s.data.toList.drop i))).toArray⟩, 0, signF (s.data.toList.drop i)⟩ := by
    rw [hd]; exact word_def _ _
  rw [hw]
  by_cases h1 : isLet c = true
  · rw [if_pos h1]
    have hr := run_ev s i (by omega) (s.size - i) 0 (by omega)
    rw [Nat.add_zero, Nat.zero_add] at hr
    have hrf : Ev (fun k => tallowref04_run.f k s i) ((((s.data.toList.drop i).takeWhile isAl).length : Nat) : Int) := hr
    have hle := (List.takeWhile_sublist isAl (l := s.data.toList.drop i)).length_le
    rw [List.length_drop, size_data] at hle
    have hx := ext_mid s i ((s.data.toList.drop i).takeWhile isAl).length (by omega)
    have hm := mk_mid s i ((s.data.toList.drop i).takeWhile isAl).length (by omega)
    rw [tw_take] at hx hm
    rw [hm]
    generalize ((s.data.toList.drop i).takeWhile isAl).length = n at hrf hle hx ⊢
    have e1 : (i : Int) + (n : Int) = ((i + n : Nat) : Int) := by omega
    by_cases h24 : n > 24
    · rw [if_pos h24]
      refine ⟨badT 14, key _ (Ev.congr (fun k => if_pos h1) (Ev.bind hrf (Ev.congr (fun k => if_pos (by omega)) (Ev.now _)))), refW_bad (by decide)⟩
    · rw [if_neg h24]
      refine ⟨((if resF ((s.data.toList.drop i).takeWhile isAl) = true then 4 else 1), s.extract i (i + n), 0, 0, (n : Int), 0), key _ (Ev.congr (fun k => if_pos h1) (Ev.bind hrf (Ev.congr (fun k => ?_) (Ev.now _)))), rfl, fun _ => rfl⟩
      rw [if_neg (by omega), w_id (by omega), if_pos (by omega), if_pos (by omega), e1]
      simp only [Int.toNat_natCast]
      unfold tallowref04_Reserved.f
      rw [Option.bind_some, hx]
      cases resF ((s.data.toList.drop i).takeWhile isAl) <;> rfl
  · rw [if_neg h1]
    by_cases h2 : isDig c = true
    · rw [if_pos h2]
      obtain ⟨r, h3, h4⟩ := number_ev s i hi (by omega)
      exact ⟨r, key _ (Ev.congr (fun k => by rw [if_neg h1, if_pos h2]) h3), h4⟩
    · rw [if_neg h2]
      by_cases h3 : c = 34
      · rw [if_pos h3]
        obtain ⟨r, h4, h5⟩ := str_ev s i hi hs
        exact ⟨r, key _ (Ev.congr (fun k => by rw [if_neg h1, if_neg h2, if_pos (by rw [h3]; rfl)]) h4), h5⟩
      · have h3i : ¬ (c.toNat : Int) = 34 := fun h => h3 (UInt8.toNat_inj.mp (by have e : (34 : UInt8).toNat = 34 := rfl; omega))
        rw [if_neg h3]
        by_cases h4 : signF (s.data.toList.drop i) = 0
        · rw [if_pos h4]
          exact ⟨badT 14, key _ (Ev.congr (fun k => by rw [if_neg h1, if_neg h2, if_neg h3i, if_pos (by omega)]) (Ev.now _)), refW_bad (by decide)⟩
        · rw [if_neg h4]
          have hz : signF (s.data.toList.drop i) ≤ (s.data.toList.drop i).length := by
            rcases sign_cases h4 with ⟨hs2, hp⟩ | ⟨c', r', hcr, hs2, _⟩
            · obtain ⟨a, b, hab, _⟩ := pair_two hp
              have : ((s.data.toList.drop i).take 2).length = 2 := by rw [hab]; rfl
              rw [List.length_take] at this
              omega
            · rw [hs2, hcr, List.length_cons]; omega
          rw [List.length_drop, size_data] at hz
          have hm := mk_mid s i (signF (s.data.toList.drop i)) (by omega)
          rw [hm]
          generalize signF (s.data.toList.drop i) = z at h4 hz key ⊢
          have e1 : (i : Int) + (z : Int) = ((i + z : Nat) : Int) := by omega
          refine ⟨(4, s.extract i (i + z), 0, 0, (z : Int), 0), key _ (Ev.congr (fun k => ?_) (Ev.now _)), rfl, fun _ => rfl⟩
          rw [if_neg h1, if_neg h2, if_neg h3i, if_neg (by omega), w_id (by omega), if_pos (by omega), if_pos (by omega), e1]
          simp only [Int.toNat_natCast]
end Go.Proofs.YtlbaejihlcfpeaaGreatDoor.G
end
