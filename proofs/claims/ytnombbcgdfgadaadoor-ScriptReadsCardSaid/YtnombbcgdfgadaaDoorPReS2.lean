import Derived.Lib.IfaceEq
import Derived.Lib.ItoaLen
import Derived.Shelf.Strings.MapGrows
import Derived.Shelf.Abstract
import Derived.LaidEql
import Derived.Stop.Asserts
import Derived.RowKitTokens
import Derived.Lib.LaidTab
import Derived.Lib.AppendIntMem
import Derived.Stop.LaidErr
import Derived.WalkKit
import Derived.Deep.RegionLaw
import Derived.Deep.Cut
import Derived.WalkSpells
import Derived.Test.YtnombbcgdfgadaaDoorPReZB
import Derived.Test.YtnombbcgdfgadaaDoorPReS
import Derived.Test.YtnombbcgdfgadaaDoorPReGxF23
import Derived.Lib.Hide
set_option linter.unusedVariables false
set_option linter.unusedSimpArgs false
section
namespace Go.Proofs.YtnombbcgdfgadaaDoor.G
open Go.Shelf Go.Extern.Stop Go.Stop Go.Extern Go.RowKit Go.Proofs.YtnombbcgdfgadaaDoorW.PrintWords Go.Proofs.YtnombbcgdfgadaaDoorW.PrintLast Go.Proofs.YtnombbcgdfgadaaDoorW.PrintMore
set_option linter.unusedVariables false
set_option linter.unusedSimpArgs false
theorem evPos {α : Type} {f g : Nat → Option α} {r : α} {c : Prop} [Decidable c] (hc : c) (h : Ev f r) : Ev (fun k => if c then f k else g k) r := Ev.congr (fun k => if_pos hc) h
theorem evNeg {α : Type} {f g : Nat → Option α} {r : α} {c : Prop} [Decidable c] (hc : ¬ c) (h : Ev g r) : Ev (fun k => if c then f k else g k) r := Ev.congr (fun k => if_neg hc) h
theorem ext_take (x : ByteArray) (n : Nat) : (x.extract 0 n).toList = x.data.toList.take n := by
  rw [toList_data, ByteArray.data_extract, Array.toList_extract]
  show (x.data.toList.drop 0).take (n - 0) = _
  rw [List.drop_zero, Nat.sub_zero]
theorem ext_drop (x : ByteArray) (n : Nat) : (x.extract n x.size).data.toList = x.data.toList.drop n := by
  rw [ByteArray.data_extract, Array.toList_extract]
  show (x.data.toList.drop n).take (x.size - n) = _
  rw [List.take_of_length_le]
  rw [List.length_drop, ← size_list]
  omega
theorem nm_list (k : Nat) : (nm k).toList = (nm k).data.toList := toList_data _
def afterB (l p : List UInt8) : Option (List UInt8) := if p.isPrefixOf l then (match l.drop p.length with | 32 :: d => some d | _ => none) else none
def endR (k : Int) (d : List UInt8) : Int × Int × Int :=
  if (readL d).2 = 4 then (0, 0, 4) else if d.head? = some 45 then (0, 0, 4) else if (readL d).2 = 0 then (if (readL d).1 > 2147483647 then (0, 0, 15) else (k, (readL d).1, 0)) else (0, 0, 15)
def refS (l : List UInt8) : Nat → Nat → Int × Int × Int
  | 0, _ => (0, 0, 4)
  | r + 1, k => if k = 3 then (if l = (nm 3).data.toList then (3, 0, 0) else refS l r 4) else match afterB l (nm k).data.toList with | some d => endR k d | none => refS l r (k + 1)
theorem nameOf_nm {k : Nat} : nameOf (k : Int) = nm k := by unfold nameOf; rw [if_neg (by omega), Int.toNat_natCast]
theorem j2_ev (k v e : Int) (b : Bool) : Ev (fun f => tallowref33_step.j2 f k v e b) (if b = true then (0, 0, 4) else if e = 0 then (if v > 2147483647 then (0, 0, 15) else (k, v, 0)) else (0, 0, 15)) := by
  refine ⟨1, fun f hf => ?_⟩
  obtain ⟨g, rfl⟩ : ∃ g, f = g + 1 := ⟨f - 1, by omega⟩
  show tallowref33_step.j2 (g + 1) k v e b = _
  rw [tallowref33_step.j2]
  repeat' split
  all_goals first | rfl | contradiction
theorem j1_end {x : ByteArray} {k : Int} {t : ByteArray} (hs : x.size ≤ 140737488351232) (ht : t.size < x.size) :
    Ev (fun f => tallowref33_step.j1 f x k t false) (endR k (x.data.toList.drop (t.size + 1))) := by
  have hw : wrap64 ((t.size : Int) + 1) = ((t.size + 1 : Nat) : Int) := by rw [w_id (by omega)]; rfl
  refine Ev.step (f := fun f => (tallowref01_Parse.f f (x.extract (t.size + 1) x.size)).bind fun bt104 => if bt104.2 = 4 then tallowref33_step.j2 f k bt104.1 bt104.2 true else if (((t.size + 1 : Nat) : Int)) < (x.size : Int) then tallowref33_step.j2 f k bt104.1 bt104.2 (bt x ((t.size + 1 : Nat) : Int) == 45) else none) (fun f => ?_) ?_
  · rw [tallowref33_step.j1, if_neg Bool.false_ne_true, hw, if_pos (by omega), if_pos (by omega), Int.toNat_natCast]
  · have hr := r_parse (x.extract (t.size + 1) x.size) (by rw [ByteArray.size_extract]; omega)
    rw [ext_drop] at hr
    generalize hd : x.data.toList.drop (t.size + 1) = d at hr ⊢
    refine Ev.bind hr ?_
    unfold endR
    by_cases h4 : (readL d).2 = 4
    · rw [if_pos h4]
      refine evPos h4 ?_
      exact Ev.eq (j2_ev _ _ _ _) (if_pos rfl)
    · rw [if_neg h4]
      refine evNeg h4 ?_
      have hne : d ≠ [] := fun e => h4 (by rw [e]; rfl)
      have hlt : t.size + 1 < x.size := by
        rcases Nat.lt_or_ge (t.size + 1) x.size with h | h
        · exact h
        · exact absurd (by rw [← hd]; exact List.drop_of_length_le (by rw [← size_list]; exact h)) hne
      refine evPos (by omega) ?_
      refine Ev.eq (j2_ev _ _ _ _) ?_
      have hb : (bt x ((t.size + 1 : Nat) : Int) == 45) = decide (d.head? = some 45) := by
        have hl : t.size + 1 < x.data.toList.length := by rw [← size_list]; exact hlt
        rw [bt_get x (t.size + 1) hl, ← hd, List.head?_drop, List.getElem?_eq_getElem hl]
        rw [Bool.eq_iff_iff]
        simp only [beq_iff_eq, decide_eq_true_eq, Option.some.injEq]
        constructor
        · intro h; rw [← UInt8.toNat_inj]; show _ = 45; omega
        · intro h; rw [h]; rfl
      rw [hb]
      by_cases h5 : d.head? = some 45
      · rw [if_pos h5, decide_eq_true h5, if_pos rfl]
      · rw [if_neg h5, decide_eq_false h5, if_neg Bool.false_ne_true]
theorem ref_step {x : ByteArray} (hs : x.size ≤ 140737488351232) : ∀ (r k : Nat), r + k = 5 → Ev (fun f => tallowref33_step.l0 f x (k : Int)) (refS x.data.toList r k)
  | 0, k, h => by
    refine ⟨1, fun f hf => ?_⟩
    obtain ⟨g, rfl⟩ : ∃ g, f = g + 1 := ⟨f - 1, by omega⟩
    show tallowref33_step.l0 (g + 1) x (k : Int) = _
    rw [tallowref33_step.l0, if_neg (by omega)]
    rfl
  | r + 1, k, h => by
    have ih := ref_step hs r (k + 1) (by omega)
    have hw : wrap64 ((k : Int) + 1) = ((k + 1 : Nat) : Int) := by rw [w_id (by omega)]; rfl
    have hskip : Ev (fun f => tallowref33_step.j1 f x k (nm k) true) (refS x.data.toList r (k + 1)) := by
      refine Ev.step (f := fun f => tallowref33_step.l0 f x ((k + 1 : Nat) : Int)) (fun f => ?_) ih
      rw [tallowref33_step.j1, if_pos rfl, hw]
    refine Ev.step (f := fun f => if (k : Int) = 3 then (if x.toList = (nm k).toList then (some ((k : Int), 0, 0)) else tallowref33_step.l0 f x ((k + 1 : Nat) : Int)) else if (x.size : Int) ≤ ((nm k).size : Int) then tallowref33_step.j1 f x k (nm k) true else if (x.extract 0 (nm k).size).toList = (nm k).toList then tallowref33_step.j1 f x k (nm k) (bt x ((nm k).size : Int) != 32) else tallowref33_step.j1 f x k (nm k) true) (fun f => ?_) ?_
    · rw [tallowref33_step.l0, if_pos (by omega)]
      show ((some (nameOf (k : Int))).bind _) = _
      rw [Option.bind_some, nameOf_nm, hw]
      by_cases h3 : (k : Int) = 3
      · rw [if_pos h3, if_pos h3]
      · rw [if_neg h3, if_neg h3]
        by_cases hle : (x.size : Int) ≤ ((nm k).size : Int)
        · rw [if_pos hle, if_pos hle]
        · rw [if_neg hle, if_neg hle, if_pos (by omega), if_pos (by omega), Int.toNat_natCast]
          by_cases he : (x.extract 0 (nm k).size).toList = (nm k).toList
          · rw [if_pos he, if_pos he, if_pos (by omega)]
          · rw [if_neg he, if_neg he]
    · unfold refS
      by_cases h3 : k = 3
      · subst h3
        rw [if_pos rfl]
        refine evPos rfl ?_
        rw [toList_data, nm_list]
        by_cases he : x.data.toList = (nm 3).data.toList
        · rw [if_pos he]
          refine evPos he ?_
          exact Ev.now _
        · rw [if_neg he]
          exact evNeg he ih
      · rw [if_neg h3]
        refine evNeg (by omega) ?_
        have hpl : (nm k).data.toList.length = (nm k).size := (size_list _).symm
        by_cases hle : (x.size : Int) ≤ ((nm k).size : Int)
        · have hn : afterB x.data.toList (nm k).data.toList = none := by
            unfold afterB
            split
            · rw [List.drop_of_length_le (by rw [hpl, ← size_list]; omega)]
            · rfl
          rw [hn]
          exact evPos hle hskip
        · refine evNeg hle ?_
          rw [ext_take, nm_list]
          by_cases he : x.data.toList.take (nm k).size = (nm k).data.toList
          · have hpre : (nm k).data.toList.isPrefixOf x.data.toList = true := by
              rw [List.isPrefixOf_iff_prefix, ← he]
              exact List.take_prefix _ _
            have hl : (nm k).size < x.data.toList.length := by rw [← size_list]; omega
            refine evPos he ?_
            rw [bt_get x (nm k).size hl]
            by_cases h32 : (x.data.toList[(nm k).size]'hl) = 32
            · have ha : afterB x.data.toList (nm k).data.toList = some (x.data.toList.drop ((nm k).size + 1)) := by
                unfold afterB
                rw [if_pos hpre, hpl, List.drop_eq_getElem_cons hl, h32]
                rfl
              rw [ha]
              have hbf : (((x.data.toList[(nm k).size]'hl).toNat : Int) != 32) = false := by rw [h32]; rfl
              rw [hbf]
              exact j1_end hs (by omega)
            · have ha : afterB x.data.toList (nm k).data.toList = none := by
                unfold afterB
                rw [if_pos hpre, hpl, List.drop_eq_getElem_cons hl]
                split
                · rename_i e; injection e with e1 _; exact absurd e1 h32
                · rfl
              rw [ha]
              have hbt : (((x.data.toList[(nm k).size]'hl).toNat : Int) != 32) = true := by
                rw [bne_iff_ne]
                intro e
                exact h32 (by rw [← UInt8.toNat_inj]; show _ = 32; omega)
              rw [hbt]
              exact hskip
          · have ha : afterB x.data.toList (nm k).data.toList = none := by
              unfold afterB
              rw [if_neg (fun hp => he (by
                rw [List.isPrefixOf_iff_prefix] at hp
                obtain ⟨z, hz⟩ := hp
                rw [← hz, ← hpl, List.take_left]))]
            rw [ha]
            exact evNeg he hskip
theorem nm_apart : ∀ j k : Fin 5, j ≠ k → (nm j.val).data.toList.isPrefixOf (nm k.val).data.toList = false := by decide +kernel
theorem nm_one {l : List UInt8} {j k : Nat} (hj : j < 5) (hk : k < 5) (hne : j ≠ k) (h1 : (nm j).data.toList.isPrefixOf l = true) (h2 : (nm k).data.toList.isPrefixOf l = true) : False := by
  rw [List.isPrefixOf_iff_prefix] at h1 h2
  rcases List.prefix_or_prefix_of_prefix h1 h2 with h | h
  · have := nm_apart ⟨j, hj⟩ ⟨k, hk⟩ (fun e => hne (congrArg Fin.val e))
    rw [← List.isPrefixOf_iff_prefix] at h
    rw [h] at this; cases this
  · have := nm_apart ⟨k, hk⟩ ⟨j, hj⟩ (fun e => hne (congrArg Fin.val e).symm)
    rw [← List.isPrefixOf_iff_prefix] at h
    rw [h] at this; cases this
theorem no_other {l : List UInt8} {k : Nat} (hk : k < 5) (h : (nm k).data.toList.isPrefixOf l = true) : ∀ (r j : Nat), r + j = 5 → k < j → refS l r j = (0, 0, 4)
  | 0, j, _, _ => rfl
  | r + 1, j, hj, hkj => by
    have ih := no_other hk h r (j + 1) (by omega) (by omega)
    unfold refS
    by_cases h3 : j = 3
    · subst h3
      rw [if_pos rfl, if_neg (fun e => nm_one (j := 3) (k := k) (by omega) hk (by omega) (by rw [e, List.isPrefixOf_iff_prefix]; exact List.prefix_refl _) h)]
      exact ih
    · rw [if_neg h3]
      have ha : afterB l (nm j).data.toList = none := by
        unfold afterB
        rw [if_neg (fun hp => nm_one (by omega) hk (by omega) hp h)]
      rw [ha]
      exact ih
theorem hp_eq (s p : ByteArray) : hp s p = p.data.toList.isPrefixOf s.data.toList := rfl
theorem cp_eq {s p : ByteArray} (h : hp s p = true) : (cp s p).data.toList = s.data.toList.drop p.data.toList.length := by
  show (Lib.trimPrefix s.data.toList p.data.toList).toArray.toList = _
  unfold Lib.trimPrefix
  have h2 : Lib.hasPrefix s.data.toList p.data.toList = true := h
  rw [if_pos h2]
theorem end_eq (k : Int) (rest : ByteArray) (d : List UInt8) (h : rest.data.toList = 32 :: d) : endF k rest = endR k d := by
  have h1 : hp rest ⟨#[32]⟩ = true := by rw [hp_eq, h]; simp [List.isPrefixOf]
  have h2 : (cp rest ⟨#[32]⟩).data.toList = d := by rw [cp_eq h1, h]; rfl
  unfold endF
  rw [if_neg (by rw [h1]; decide), parseF_read, h2]
  have h3 : hp (cp rest ⟨#[32]⟩) ⟨#[45]⟩ = decide (d.head? = some 45) := by
    rw [hp_eq, h2]
    cases d with
    | nil => rfl
    | cons c r =>
      show ((45 == c) && ([] : List UInt8).isPrefixOf r) = decide (some c = some 45)
      by_cases hc : c = 45
      · subst hc
        rw [decide_eq_true rfl]
        rfl
      · rw [beq_eq_false_iff_ne.mpr (fun e => hc e.symm), Bool.false_and, decide_eq_false (fun e => hc (Option.some.inj e))]
  rw [h3]
  unfold endR
  generalize readL d = q
  obtain ⟨v, e⟩ := q
  dsimp only
  by_cases h5 : d.head? = some 45
  · rw [decide_eq_true h5, if_pos rfl, if_pos h5]
    by_cases h4 : e = 4
    · rw [if_pos h4]
    · rw [if_neg h4]
  · rw [decide_eq_false h5, if_neg Bool.false_ne_true, if_neg h5]
    by_cases h6 : e = 0
    · subst h6
      rw [if_pos rfl, if_neg (by decide : ¬ ((0 : Int) = 4)), if_pos rfl]
      by_cases h7 : v > 2147483647
      · rw [if_pos h7, if_neg (by omega)]
      · rw [if_neg h7, if_pos (by omega)]
    · rw [if_neg h6, if_neg h6]
theorem step_eq (x : ByteArray) : ∀ (r k : Nat), r + k = 5 → stepF x r k = refS x.data.toList r k
  | 0, k, _ => rfl
  | r + 1, k, h => by
    have ih := step_eq x r (k + 1) (by omega)
    unfold stepF refS
    cases hh : hp x (nm k) with
    | false =>
      rw [if_pos rfl]
      rw [hp_eq] at hh
      by_cases h3 : k = 3
      · subst h3
        rw [if_pos rfl, if_neg (fun e => by
          have : (nm 3).data.toList.isPrefixOf x.data.toList = true := by rw [e, List.isPrefixOf_iff_prefix]; exact List.prefix_refl _
          rw [this] at hh; cases hh)]
        exact ih
      · rw [if_neg h3]
        have ha : afterB x.data.toList (nm k).data.toList = none := by
          unfold afterB
          rw [hh, if_neg Bool.false_ne_true]
        rw [ha]
        exact ih
    | true =>
      rw [if_neg (by decide)]
      have hc := cp_eq hh
      have hpre : (nm k).data.toList.isPrefixOf x.data.toList = true := hh
      have hdrop : x.data.toList = (nm k).data.toList ++ x.data.toList.drop (nm k).data.toList.length := by
        have h1 := hpre
        rw [List.isPrefixOf_iff_prefix] at h1
        obtain ⟨z, hz⟩ := h1
        rw [← hz, List.drop_left]
      by_cases h3 : k = 3
      · subst h3
        rw [if_pos rfl, if_pos rfl, toList_data, hc]
        by_cases he : x.data.toList.drop (nm 3).data.toList.length = []
        · rw [if_pos he, if_pos (by rw [hdrop, he, List.append_nil])]
        · rw [if_neg he, if_neg (fun e => he (by rw [e, List.drop_length]))]
          exact ih
      · rw [if_neg h3, if_neg h3, toList_data, hc]
        by_cases he : x.data.toList.drop (nm k).data.toList.length = []
        · rw [if_pos he]
          have ha : afterB x.data.toList (nm k).data.toList = none := by
            unfold afterB
            rw [if_pos hpre, he]
          rw [ha]
          exact ih
        · rw [if_neg he]
          cases hd : x.data.toList.drop (nm k).data.toList.length with
          | nil => exact absurd hd he
          | cons c d =>
            rw [hd] at hc
            by_cases h32 : c = 32
            · subst h32
              have ha : afterB x.data.toList (nm k).data.toList = some d := by
                unfold afterB
                rw [if_pos hpre, hd]
                rfl
              rw [ha]
              exact end_eq k _ d hc
            · have ha : afterB x.data.toList (nm k).data.toList = none := by
                unfold afterB
                rw [if_pos hpre, hd]
                split
                · rename_i e; injection e with e1 _; exact absurd e1 h32
                · rfl
              rw [ha]
              show _ = refS x.data.toList r (k + 1)
              rw [no_other (by omega) hpre r (k + 1) (by omega) (by omega)]
              unfold endF
              rw [if_pos (by
                rw [hp_eq, hc]
                show ((32 == c) && _) = false
                rw [beq_eq_false_iff_ne.mpr (fun e => h32 e.symm), Bool.false_and])]
theorem ref_step_ev (x : ByteArray) (hs : x.size ≤ 140737488351232) : Ev (fun f => tallowref33_step.f f x) (stepF x 5 0) := by
  rw [step_eq x 5 0 rfl]
  exact ref_step hs 5 0 rfl
end Go.Proofs.YtnombbcgdfgadaaDoor.G
end
