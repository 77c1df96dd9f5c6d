import Derived.LaidMore
import Derived.LaidHandle
import Derived.Stop.Joined
import Derived.Lib.IfaceEq
import Derived.Lib.IndexMore
import Derived.Shelf.Abstract
import Derived.LaidEql
import Derived.Stop.Asserts
import Derived.RowKitTokens
import Derived.Lib.LaidTab
import Derived.Lib.AppendIntMem
import Derived.Stop.LaidErr
import Derived.WalkKit
import Derived.Deep.RegionLaw
import Derived.Deep.Cut
import Derived.WalkSpells
import Derived.Maps.OwnOps
import Derived.Maps.OwnSet
import Derived.Maps.Views
import Derived.Maps.RangeWalk
import Derived.Maps.Own
import Derived.Test.YtlbaejihlcfpeaaDoorPNmV
import Derived.Lib.Hide
set_option linter.unusedVariables false
set_option linter.unusedSimpArgs false
section
namespace Go.Proofs.YtlbaejihlcfpeaaDoor.G
open Go.Proofs.YtlbaejihlcfpeaaDoor.G
open Go.Shelf Go.Extern.Stop Go.Stop Go.Extern Go.RowKit Go.Proofs.YtlbaejihlcfpeaaDoorW.PrintWords Go.Proofs.YtlbaejihlcfpeaaDoorW.PrintLast Go.Proofs.YtlbaejihlcfpeaaDoorW.PrintMore
set_option linter.unusedVariables false
set_option linter.unusedSimpArgs false
def isLet (c : UInt8) : Bool := (decide (97 ≤ c.toNat) && decide (c.toNat ≤ 122)) || ((decide (65 ≤ c.toNat) && decide (c.toNat ≤ 90)) || decide (c.toNat = 95))
def isDig (c : UInt8) : Bool := decide (48 ≤ c.toNat) && decide (c.toNat ≤ 57)
def isAl (c : UInt8) : Bool := isLet c || isDig c
structure Tk where
  k : Int
  t : ByteArray
  n : Int
  l : Int
def resW : List (List UInt8) := [[97,110,100],[98,114,101,97,107],[99,97,116,99,104],[100,111],[101,108,115,101],[101,108,115,101,105,102],[101,110,100],[102,97,108,115,101],[102,111,114],[102,117,110,99,116,105,111,110],[105,102],[108,111,99,97,108],[110,105,108],[110,111,116],[111,114],[114,101,116,117,114,110],[116,104,101,110],[116,114,117,101],[116,114,121],[119,104,105,108,101]]
def resF (u : List UInt8) : Bool := resW.contains u
def pairW : List (List UInt8) := [[47,47],[60,60],[62,62],[61,61],[126,61],[60,61],[62,61],[46,46]]
def oneW : List UInt8 := [43,45,42,37,38,124,126,60,62,61,46,44,40,41,91,93,123,125,35]
def signF (u : List UInt8) : Nat := if pairW.contains (u.take 2) then 2 else match u with
  | c :: _ => if oneW.contains c then 1 else 0
  | [] => 0
def qend : List UInt8 → Option Nat
  | [] => none
  | c :: r => if c = 10 then none else if c = 34 then some 0 else if c = 92 then (match r with
    | [] => none
    | d :: r2 => if d = 10 then none else (qend r2).map (· + 2)) else (qend r).map (· + 1)
structure Wd where
  e : Int
  k : Int
  t : ByteArray
  n : Int
  z : Nat
def badW (e : Int) : Wd := ⟨e, 0, ⟨#[]⟩, 0, 0⟩
section
variable (numF : List UInt8 → Int × Int) (unqF : List UInt8 → ByteArray × Int)
def numW (u : List UInt8) : Wd :=
  if (numF (u.takeWhile isDig)).2 = 4 ∨ ((u.dropWhile isDig).head?.map isLet) = some true then badW 14
  else if (numF (u.takeWhile isDig)).2 ≠ 0 then badW (numF (u.takeWhile isDig)).2
  else ⟨0, 2, ⟨(u.takeWhile isDig).toArray⟩, (numF (u.takeWhile isDig)).1, (u.takeWhile isDig).length⟩
def strW (u : List UInt8) : Wd := match qend (u.drop 1) with
  | none => badW 14
  | some j => if (unqF (u.take (j + 2))).2 = 0 then ⟨0, 3, (unqF (u.take (j + 2))).1, 0, j + 2⟩ else if (unqF (u.take (j + 2))).2 = 4 then badW 14 else badW (unqF (u.take (j + 2))).2
def wordW (u : List UInt8) : Wd := match u with
  | [] => badW 14
  | c :: _ => if isLet c then (if (u.takeWhile isAl).length > 24 then badW 14 else ⟨0, if resF (u.takeWhile isAl) then 4 else 1, ⟨(u.takeWhile isAl).toArray⟩, 0, (u.takeWhile isAl).length⟩)
    else if isDig c then numW numF u
    else if c = 34 then strW unqF u
    else if signF u = 0 then badW 14 else ⟨0, 4, ⟨(u.take (signF u)).toArray⟩, 0, signF u⟩
def tokW : Nat → List UInt8 → Int → List Tk → Option (List Tk × Int × Int)
  | 0, _, _, _ => none
  | _ + 1, [], l, a => some (a ++ [⟨5, ⟨#[]⟩, 0, l⟩], 0, 0)
  | k + 1, c :: r, l, a =>
    if c = 10 then tokW k r (l + 1) a
    else if c = 32 ∨ c = 9 ∨ c = 13 then tokW k r l a
    else if c = 45 ∧ r.head? = some 45 then tokW k (r.dropWhile (· != 10)) l a
    else if (wordW numF unqF (c :: r)).e ≠ 0 then some ([], (wordW numF unqF (c :: r)).e, l)
    else tokW k ((c :: r).drop (wordW numF unqF (c :: r)).z) l (a ++ [⟨(wordW numF unqF (c :: r)).k, (wordW numF unqF (c :: r)).t, (wordW numF unqF (c :: r)).n, l⟩])
end
def letB : List UInt8 := [97,98,99,100,101,102,103,104,105,106,107,108,109,110,111,112,113,114,115,116,117,118,119,120,121,122,65,66,67,68,69,70,71,72,73,74,75,76,77,78,79,80,81,82,83,84,85,86,87,88,89,90,95]
def digB : List UInt8 := [48,49,50,51,52,53,54,55,56,57]
def wordB : List UInt8 := [32,97,110,100,32,98,114,101,97,107,32,99,97,116,99,104,32,100,111,32,101,108,115,101,32,101,108,115,101,105,102,32,101,110,100,32,102,97,108,115,101,32,102,111,114,32,102,117,110,99,116,105,111,110,32,105,102,32,108,111,99,97,108,32,110,105,108,32,110,111,116,32,111,114,32,114,101,116,117,114,110,32,116,104,101,110,32,116,114,117,101,32,116,114,121,32,119,104,105,108,101,32]
def pairB : List UInt8 := [47,47,32,60,60,32,62,62,32,61,61,32,126,61,32,60,61,32,62,61,32,46,46]
def amF (l : List UInt8) (c : UInt8) : Bool := decide (0 ≤ Lib.indexByte l c)
theorem am_contains : ∀ (l : List UInt8) (c : UInt8), amF l c = l.contains c
  | [], c => rfl
  | b :: l, c => by
    have ih := am_contains l c
    have hg := Lib.indexByte_ge l c
    unfold amF at ih ⊢
    unfold Lib.indexByte
    rw [List.contains_cons]
    by_cases h : b = c
    · subst h; simp
    · have h1 : (b == c) = false := beq_eq_false_iff_ne.mpr h
      have h2 : (c == b) = false := beq_eq_false_iff_ne.mpr (fun e => h e.symm)
      rw [h1, h2, if_neg (by decide), Bool.false_or, ← ih]
      by_cases h3 : Lib.indexByte l c = -1
      · rw [h3]; rfl
      · have h4 : (Lib.indexByte l c == -1) = false := beq_eq_false_iff_ne.mpr h3
        rw [h4, if_neg (by decide)]
        rw [decide_eq_true (by omega), decide_eq_true (by omega)]
theorem forall_u8 {p : UInt8 → Bool} (h : (List.range 256).all (fun n => p (UInt8.ofNat n)) = true) (c : UInt8) : p c = true := by
  have := List.all_eq_true.1 h c.toNat (List.mem_range.mpr c.toNat_lt)
  simpa using this
theorem am_let (c : UInt8) : amF letB c = isLet c := by
  rw [am_contains]
  have := forall_u8 (p := fun c => letB.contains c == isLet c) (by kernel_rfl) c
  exact beq_iff_eq.mp this
theorem am_dig (c : UInt8) : amF digB c = isDig c := by
  rw [am_contains]
  have := forall_u8 (p := fun c => digB.contains c == isDig c) (by kernel_rfl) c
  exact beq_iff_eq.mp this
theorem am_al (c : UInt8) : amF (letB ++ digB) c = isAl c := by
  rw [am_contains]
  have := forall_u8 (p := fun c => (letB ++ digB).contains c == isAl c) (by kernel_rfl) c
  exact beq_iff_eq.mp this
theorem am_one (c : UInt8) : amF oneW c = oneW.contains c := am_contains _ _
theorem index_iff (s sub : List UInt8) : 0 ≤ Lib.index s sub ↔ ∃ i, i ≤ s.length ∧ Lib.occAt s sub i = true := by
  rcases Lib.index_spec s sub with ⟨h, h2⟩ | ⟨i, h, h2, h3, _⟩
  · rw [h]
    constructor
    · intro h'; omega
    · rintro ⟨i, hi, ho⟩
      rw [h2 i hi] at ho; cases ho
  · rw [h]
    exact ⟨fun _ => ⟨i, h2, h3⟩, fun _ => by omega⟩
def segAt (s : List UInt8) (i : Nat) : Option (List UInt8) := match s.drop i with
  | [] => none
  | c :: r => if c = 32 ∧ (r.dropWhile (· != 32)) ≠ [] then some (r.takeWhile (· != 32)) else none
theorem pre_seg {name r : List UInt8} (hn : ∀ c ∈ name, c ≠ 32) : (name ++ [32]).isPrefixOf r = true ↔ r.dropWhile (· != 32) ≠ [] ∧ r.takeWhile (· != 32) = name := by
  induction name generalizing r with
  | nil =>
    cases r with
    | nil => simp
    | cons c r =>
      by_cases h : c = 32
      · subst h; simp
      · have h1 : (c != 32) = true := bne_iff_ne.mpr h
        have h2 : ((32 : UInt8) == c) = false := beq_eq_false_iff_ne.mpr (fun e => h e.symm)
        have d1 : (c :: r).dropWhile (fun x => x != 32) = r.dropWhile (fun x => x != 32) := List.dropWhile_cons_of_pos h1
        have d2 : (c :: r).takeWhile (fun x => x != 32) = c :: r.takeWhile (fun x => x != 32) := List.takeWhile_cons_of_pos h1
        rw [List.nil_append, List.isPrefixOf, h2, d1, d2]
        simp
  | cons a name ih =>
    have ha : a ≠ 32 := hn a (List.mem_cons_self ..)
    have ih' := fun r => ih (r := r) (fun c hc => hn c (List.mem_cons_of_mem _ hc))
    cases r with
    | nil => simp
    | cons c r =>
      rw [List.cons_append, List.isPrefixOf]
      by_cases h : c = 32
      · subst h
        have h2 : (a == (32 : UInt8)) = false := beq_eq_false_iff_ne.mpr ha
        rw [h2]
        simp
      · have h1 : (c != 32) = true := bne_iff_ne.mpr h
        have d1 : (c :: r).dropWhile (fun x => x != 32) = r.dropWhile (fun x => x != 32) := List.dropWhile_cons_of_pos h1
        have d2 : (c :: r).takeWhile (fun x => x != 32) = c :: r.takeWhile (fun x => x != 32) := List.takeWhile_cons_of_pos h1
        rw [d1, d2]
        by_cases hac : a = c
        · subst hac
          rw [beq_self_eq_true, Bool.true_and, ih']
          simp
        · have h2 : (a == c) = false := beq_eq_false_iff_ne.mpr hac
          rw [h2]
          constructor
          · intro h'; cases h'
          · rintro ⟨_, h'⟩
            injection h' with h' _
            exact absurd h'.symm hac
theorem occ_seg {s name : List UInt8} (hn : ∀ c ∈ name, c ≠ 32) (i : Nat) : Lib.occAt s (32 :: (name ++ [32])) i = true ↔ segAt s i = some name := by
  unfold Lib.occAt segAt
  cases h : s.drop i with
  | nil => simp
  | cons c r =>
    show ((32 :: (name ++ [32])).isPrefixOf (c :: r)) = true ↔ (if c = 32 ∧ (r.dropWhile (· != 32)) ≠ [] then some (r.takeWhile (· != 32)) else none) = some name
    rw [List.isPrefixOf]
    by_cases hc : c = 32
    · subst hc
      rw [beq_self_eq_true, Bool.true_and, pre_seg hn]
      by_cases hd : r.dropWhile (· != 32) ≠ []
      · rw [if_pos ⟨rfl, hd⟩]
        exact ⟨fun h => by rw [h.2], fun h => ⟨hd, Option.some.inj h⟩⟩
      · rw [if_neg (fun h => hd h.2)]
        exact ⟨fun h => absurd h.1 hd, fun h => by cases h⟩
    · have h2 : ((32 : UInt8) == c) = false := beq_eq_false_iff_ne.mpr (fun e => hc e.symm)
      rw [h2, if_neg (fun h => hc h.1)]
      simp
theorem segs_word : (List.range 103).all (fun i => match segAt wordB i with | none => true | some u => resW.contains u || u == []) = true := by kernel_rfl
theorem word_len : wordB.length = 102 := by kernel_rfl
theorem word_segs : resW.all (fun u => (List.range 103).any fun i => segAt wordB i == some u) = true := by kernel_rfl
theorem resW_ok : resW.all (fun u => u != [] && u.all (· != 32)) = true := by kernel_rfl
theorem res_test (u : List UInt8) : (u ≠ [] ∧ amF u 32 = false ∧ 0 ≤ Lib.index wordB (32 :: (u ++ [32]))) ↔ resF u = true := by
  unfold resF
  constructor
  · rintro ⟨h0, h1, h2⟩
    rw [am_contains] at h1
    have hn : ∀ c ∈ u, c ≠ 32 := fun c hc e => by
      subst e
      have : u.contains 32 = true := List.contains_iff_mem.mpr hc
      rw [this] at h1; cases h1
    obtain ⟨i, hi, ho⟩ := (index_iff _ _).1 h2
    rw [word_len] at hi
    have hs := (occ_seg hn i).1 ho
    have := List.all_eq_true.1 segs_word i (List.mem_range.mpr (by omega))
    rw [hs] at this
    simp only [Bool.or_eq_true, beq_iff_eq] at this
    rcases this with h | h
    · exact h
    · exact absurd h h0
  · intro h
    have hm := List.contains_iff_mem.mp h
    have hk := List.all_eq_true.1 resW_ok u hm
    rw [Bool.and_eq_true, bne_iff_ne] at hk
    have hn : ∀ c ∈ u, c ≠ 32 := fun c hc => bne_iff_ne.mp (List.all_eq_true.1 hk.2 c hc)
    refine ⟨hk.1, ?_, ?_⟩
    · rw [am_contains]
      cases hc : u.contains 32 with
      | false => rfl
      | true => exact absurd rfl (hn 32 (List.contains_iff_mem.mp hc))
    · have := List.all_eq_true.1 word_segs u hm
      obtain ⟨i, hi, hs⟩ := List.any_eq_true.1 this
      refine (index_iff _ _).2 ⟨i, ?_, (occ_seg hn i).2 (beq_iff_eq.mp hs)⟩
      have := List.mem_range.mp hi
      rw [word_len]; omega
theorem pair_at : (List.range 24).all (fun i => ((pairB.drop i).take 2).length < 2 || ((pairB.drop i).take 2).contains 32 || pairW.contains ((pairB.drop i).take 2)) = true := by kernel_rfl
theorem pair_len : pairB.length = 23 := by kernel_rfl
theorem pair_in : pairW.all (fun u => decide (u.length = 2) && !u.contains 32 && (List.range 24).any fun i => Lib.occAt pairB u i) = true := by kernel_rfl
theorem pair_test (u : List UInt8) (hl : u.length = 2) : (amF u 32 = false ∧ 0 ≤ Lib.index pairB u) ↔ pairW.contains u = true := by
  constructor
  · rintro ⟨h1, h2⟩
    rw [am_contains] at h1
    obtain ⟨i, hi, ho⟩ := (index_iff _ _).1 h2
    rw [pair_len] at hi
    have hp : (pairB.drop i).take 2 = u := by
      unfold Lib.occAt at ho
      have := List.isPrefixOf_iff_prefix.mp ho
      obtain ⟨t, ht⟩ := this
      rw [← ht, ← hl, List.take_left']
      rfl
    have := List.all_eq_true.1 pair_at i (List.mem_range.mpr (by omega))
    rw [hp, hl, h1] at this
    simpa using this
  · intro h
    have hm := List.contains_iff_mem.mp h
    have := List.all_eq_true.1 pair_in u hm
    rw [Bool.and_eq_true, Bool.and_eq_true] at this
    obtain ⟨⟨_, h3⟩, h4⟩ := this
    refine ⟨by rw [am_contains]; simpa using h3, ?_⟩
    obtain ⟨i, hi, hs⟩ := List.any_eq_true.1 h4
    refine (index_iff _ _).2 ⟨i, ?_, hs⟩
    have := List.mem_range.mp hi
    rw [pair_len]; omega
section
variable {numF : List UInt8 → Int × Int} {unqF : List UInt8 → ByteArray × Int}
theorem al_let {c : UInt8} (h : isLet c = true) : isAl c = true := by unfold isAl; rw [h]; rfl
theorem tw_pos {p : UInt8 → Bool} {c : UInt8} {r : List UInt8} (h : p c = true) : 1 ≤ ((c :: r).takeWhile p).length := by
  rw [List.takeWhile_cons_of_pos h, List.length_cons]; omega
theorem word_pos {c : UInt8} {r : List UInt8} (h : (wordW numF unqF (c :: r)).e = 0) : 1 ≤ (wordW numF unqF (c :: r)).z := by
  unfold wordW at h ⊢
  by_cases h1 : isLet c = true
  · simp only [if_pos h1] at h ⊢
    by_cases h2 : ((c :: r).takeWhile isAl).length > 24
    · rw [if_pos h2] at h; cases h
    · rw [if_neg h2]; exact tw_pos (al_let h1)
  · simp only [if_neg h1] at h ⊢
    by_cases h2 : isDig c = true
    · rw [if_pos h2] at h ⊢
      unfold numW at h ⊢
      by_cases h3 : (numF ((c :: r).takeWhile isDig)).2 = 4 ∨ ((((c :: r).dropWhile isDig).head?.map isLet) = some true)
      · rw [if_pos h3] at h; cases h
      · rw [if_neg h3] at h ⊢
        by_cases h4 : (numF ((c :: r).takeWhile isDig)).2 ≠ 0
        · rw [if_pos h4] at h; exact absurd h h4
        · rw [if_neg h4]; exact tw_pos h2
    · rw [if_neg h2] at h ⊢
      by_cases h3 : c = 34
      · rw [if_pos h3] at h ⊢
        unfold strW at h ⊢
        cases hq : qend ((c :: r).drop 1) with
        | none => rw [hq] at h; cases h
        | some j =>
          rw [hq] at h
          dsimp only at h ⊢
          by_cases h4 : (unqF ((c :: r).take (j + 2))).2 = 0
          · rw [if_pos h4]; exact Nat.le_add_left _ _
          · rw [if_neg h4] at h
            by_cases h5 : (unqF ((c :: r).take (j + 2))).2 = 4
            · rw [if_pos h5] at h; cases h
            · rw [if_neg h5] at h; exact absurd h h4
      · rw [if_neg h3] at h ⊢
        by_cases h4 : signF (c :: r) = 0
        · rw [if_pos h4] at h; cases h
        · rw [if_neg h4]; exact Nat.one_le_iff_ne_zero.mpr h4
theorem tok_step {k : Nat} {c : UInt8} {r : List UInt8} {l : Int} {a : List Tk} : tokW numF unqF (k + 1) (c :: r) l a =
    if c = 10 then tokW numF unqF k r (l + 1) a
    else if c = 32 ∨ c = 9 ∨ c = 13 then tokW numF unqF k r l a
    else if c = 45 ∧ r.head? = some 45 then tokW numF unqF k (r.dropWhile (· != 10)) l a
    else if (wordW numF unqF (c :: r)).e ≠ 0 then some ([], (wordW numF unqF (c :: r)).e, l)
    else tokW numF unqF k ((c :: r).drop (wordW numF unqF (c :: r)).z) l (a ++ [⟨(wordW numF unqF (c :: r)).k, (wordW numF unqF (c :: r)).t, (wordW numF unqF (c :: r)).n, l⟩]) := by
  rw [tokW]
theorem dw_len {p : UInt8 → Bool} (r : List UInt8) : (r.dropWhile p).length ≤ r.length := (List.dropWhile_sublist p).length_le
theorem tok_some : ∀ (k : Nat) (u : List UInt8) (l : Int) (a : List Tk), u.length < k → ∃ x, tokW numF unqF k u l a = some x
  | 0, u, l, a, h => by omega
  | k + 1, [], l, a, h => ⟨_, rfl⟩
  | k + 1, c :: r, l, a, h => by
    rw [List.length_cons] at h
    rw [tok_step]
    split
    · exact tok_some k _ _ _ (by omega)
    · split
      · exact tok_some k _ _ _ (by omega)
      · split
        · have := dw_len (p := (· != 10)) r
          exact tok_some k _ _ _ (by omega)
        · split
          · exact ⟨_, rfl⟩
          · rename_i h4
            have := word_pos (numF := numF) (unqF := unqF) (c := c) (r := r) (Classical.byContradiction h4)
            refine tok_some k _ _ _ ?_
            rw [List.length_drop, List.length_cons]; omega
theorem tok_more : ∀ (k : Nat) (u : List UInt8) (l : Int) (a : List Tk) (x : List Tk × Int × Int), tokW numF unqF k u l a = some x → tokW numF unqF (k + 1) u l a = some x
  | 0, u, l, a, x, h => by cases h
  | k + 1, [], l, a, x, h => h
  | k + 1, c :: r, l, a, x, h => by
    rw [tok_step] at h ⊢
    split at h
    · rename_i h1
      rw [if_pos h1]; exact tok_more k _ _ _ _ h
    · rename_i h1
      rw [if_neg h1]
      split at h
      · rename_i h2
        rw [if_pos h2]; exact tok_more k _ _ _ _ h
      · rename_i h2
        rw [if_neg h2]
        split at h
        · rename_i h3
          rw [if_pos h3]; exact tok_more k _ _ _ _ h
        · rename_i h3
          rw [if_neg h3]
          split at h
          · rename_i h4
            rw [if_pos h4]; exact h
          · rename_i h4
            rw [if_neg h4]; exact tok_more k _ _ _ _ h
theorem tok_fuel {k d : Nat} {u : List UInt8} {l : Int} {a : List Tk} {x : List Tk × Int × Int} (h : tokW numF unqF k u l a = some x) : tokW numF unqF (k + d) u l a = some x := by
  induction d with
  | zero => exact h
  | succ d ih => exact tok_more _ _ _ _ _ ih
theorem tok_same {k j : Nat} {u : List UInt8} {l : Int} {a : List Tk} {x y : List Tk × Int × Int} (h : tokW numF unqF k u l a = some x) (h2 : tokW numF unqF j u l a = some y) : x = y := by
  have e1 := tok_fuel (d := j) h
  have e2 := tok_fuel (d := k) h2
  rw [Nat.add_comm] at e2
  exact Option.some.inj (e1.symm.trans e2)
end
def isBl (b : UInt8) : Bool := b == 32 || (b == 9 || b == 10)
theorem bl_al {b : UInt8} (h : isBl b = true) : isAl b = false := by
  have := forall_u8 (p := fun c => !isBl c || !isAl c) (by kernel_rfl) b
  rw [h] at this; simpa using this
theorem bl_let {b : UInt8} (h : isBl b = true) : isLet b = false := by
  have := bl_al h
  unfold isAl at this
  exact (Bool.or_eq_false_iff.mp this).1
theorem bl_dig {b : UInt8} (h : isBl b = true) : isDig b = false := by
  have := bl_al h
  unfold isAl at this
  exact (Bool.or_eq_false_iff.mp this).2
theorem bl_pair {b : UInt8} (h : isBl b = true) (c : UInt8) : pairW.contains [c, b] = false := by
  have e : b = 32 ∨ b = 9 ∨ b = 10 := by
    unfold isBl at h
    simp only [Bool.or_eq_true, beq_iff_eq] at h
    exact h
  rcases e with rfl | rfl | rfl
  · have := forall_u8 (p := fun c => !pairW.contains [c, 32]) (by kernel_rfl) c; simpa using this
  · have := forall_u8 (p := fun c => !pairW.contains [c, 9]) (by kernel_rfl) c; simpa using this
  · have := forall_u8 (p := fun c => !pairW.contains [c, 10]) (by kernel_rfl) c; simpa using this
theorem tw_app {p : UInt8 → Bool} : ∀ (u : List UInt8) (b : UInt8) (r : List UInt8), (∀ c ∈ u, p c = true) → p b = false → (u ++ b :: r).takeWhile p = u
  | [], b, r, _, hb => by
    rw [List.nil_append, List.takeWhile_cons_of_neg (by rw [hb]; decide)]
  | c :: u, b, r, hu, hb => by
    rw [List.cons_append, List.takeWhile_cons_of_pos (hu c (List.mem_cons_self ..)), tw_app u b r (fun d hd => hu d (List.mem_cons_of_mem _ hd)) hb]
theorem dw_app {p : UInt8 → Bool} : ∀ (u : List UInt8) (b : UInt8) (r : List UInt8), (∀ c ∈ u, p c = true) → p b = false → (u ++ b :: r).dropWhile p = b :: r
  | [], b, r, _, hb => by
    rw [List.nil_append, List.dropWhile_cons_of_neg (by rw [hb]; decide)]
  | c :: u, b, r, hu, hb => by
    rw [List.cons_append, List.dropWhile_cons_of_pos (hu c (List.mem_cons_self ..)), dw_app u b r (fun d hd => hu d (List.mem_cons_of_mem _ hd)) hb]
theorem tw_all {p : UInt8 → Bool} : ∀ (u : List UInt8), ∀ c ∈ u.takeWhile p, p c = true
  | [], c, h => by cases h
  | a :: u, c, h => by
    by_cases ha : p a = true
    · rw [List.takeWhile_cons_of_pos ha] at h
      rcases List.mem_cons.mp h with rfl | h
      · exact ha
      · exact tw_all u c h
    · rw [List.takeWhile_cons_of_neg ha] at h; cases h
theorem tw_cons {p : UInt8 → Bool} {c : UInt8} {r : List UInt8} (h : p c = true) : (c :: r).takeWhile p = c :: r.takeWhile p := List.takeWhile_cons_of_pos h
section
variable {numF : List UInt8 → Int × Int} {unqF : List UInt8 → ByteArray × Int} {qb : ByteArray → List UInt8}
def txtW (qb : ByteArray → List UInt8) (w : Wd) : List UInt8 := if w.k = 3 then 34 :: (qb w.t ++ [34]) else w.t.data.toList
structure QOk (unqF : List UInt8 → ByteArray × Int) (qb : ByteArray → List UInt8) : Prop where
  qend : ∀ s r, qend (qb s ++ 34 :: r) = some (qb s).length
  back : ∀ s : ByteArray, s.size ≤ 4096 → unqF (34 :: (qb s ++ [34])) = (s, 0)
  fore : ∀ q t, unqF q = (t, 0) → t.size ≤ 4096 ∧ (qb t).length + 2 ≤ q.length
theorem sign_cases {u : List UInt8} (h : signF u ≠ 0) : (signF u = 2 ∧ pairW.contains (u.take 2) = true) ∨ (∃ c r, u = c :: r ∧ signF u = 1 ∧ oneW.contains c = true) := by
  unfold signF at h ⊢
  by_cases h1 : pairW.contains (u.take 2) = true
  · left; exact ⟨by rw [if_pos h1], h1⟩
  · right
    rw [if_neg h1] at h
    cases u with
    | nil => exact absurd rfl h
    | cons c r =>
      dsimp only at h
      refine ⟨c, r, rfl, ?_⟩
      rw [if_neg h1]
      dsimp only
      by_cases h2 : oneW.contains c = true
      · exact ⟨by rw [if_pos h2], h2⟩
      · rw [if_neg h2] at h; exact absurd rfl h
theorem pair_two {u : List UInt8} (h : pairW.contains u = true) : ∃ a b, u = [a, b] ∧ (a ≠ 45 ∨ b ≠ 45) := by
  have hm := List.contains_iff_mem.mp h
  have : pairW.all (fun u => match u with | [a, b] => a != 45 || b != 45 | _ => false) = true := by kernel_rfl
  have := List.all_eq_true.1 this u hm
  match u, this with
  | [a, b], h =>
    rw [Bool.or_eq_true, bne_iff_ne, bne_iff_ne] at h
    exact ⟨a, b, rfl, h⟩
theorem word_def (c : UInt8) (r : List UInt8) : wordW numF unqF (c :: r) = if isLet c then (if ((c :: r).takeWhile isAl).length > 24 then badW 14 else ⟨0, if resF ((c :: r).takeWhile isAl) then 4 else 1, ⟨((c :: r).takeWhile isAl).toArray⟩, 0, ((c :: r).takeWhile isAl).length⟩)
    else if isDig c then numW numF (c :: r)
    else if c = 34 then strW unqF (c :: r)
    else if signF (c :: r) = 0 then badW 14 else ⟨0, 4, ⟨((c :: r).take (signF (c :: r))).toArray⟩, 0, signF (c :: r)⟩ := rfl
theorem qend_lt : ∀ (n : Nat) (u : List UInt8) (j : Nat), u.length ≤ n → qend u = some j → j < u.length
  | _, [], j, _, h => by unfold qend at h; cases h
  | 0, c :: r, j, hn, h => by simp at hn
  | n + 1, c :: r, j, hn, h => by
    rw [List.length_cons] at hn ⊢
    unfold qend at h
    by_cases h1 : c = 10
    · rw [if_pos h1] at h; cases h
    · rw [if_neg h1] at h
      by_cases h2 : c = 34
      · rw [if_pos h2] at h; cases h; omega
      · rw [if_neg h2] at h
        by_cases h3 : c = 92
        · rw [if_pos h3] at h
          cases r with
          | nil => cases h
          | cons d r2 =>
            dsimp only at h
            by_cases h4 : d = 10
            · rw [if_pos h4] at h; cases h
            · rw [if_neg h4] at h
              rw [List.length_cons] at hn ⊢
              cases hq : qend r2 with
              | none => rw [hq] at h; cases h
              | some i => rw [hq] at h; cases h; have := qend_lt n r2 i (by omega) hq; show i + 2 < _; omega
        · rw [if_neg h3] at h
          cases hq : qend r with
          | none => rw [hq] at h; cases h
          | some i => rw [hq] at h; cases h; have := qend_lt n r i (by omega) hq; show i + 1 < _; omega
theorem word_same (hq : QOk unqF qb) {c : UInt8} {r : List UInt8} (hc : c ≠ 10 ∧ c ≠ 32 ∧ c ≠ 9 ∧ c ≠ 13) (hcc : ¬ (c = 45 ∧ r.head? = some 45)) (he : (wordW numF unqF (c :: r)).e = 0) {b : UInt8} (hb : isBl b = true) (rest : List UInt8) :
    ∃ r2, txtW qb (wordW numF unqF (c :: r)) ++ b :: rest = c :: r2 ∧ ¬ (c = 45 ∧ r2.head? = some 45) ∧
      (txtW qb (wordW numF unqF (c :: r))).length ≤ (wordW numF unqF (c :: r)).z ∧ (wordW numF unqF (c :: r)).z ≤ (c :: r).length ∧
      wordW numF unqF (c :: r2) = { wordW numF unqF (c :: r) with z := (txtW qb (wordW numF unqF (c :: r))).length } := by
  by_cases h1 : isLet c = true
  · have hw : wordW numF unqF (c :: r) = if ((c :: r).takeWhile isAl).length > 24 then badW 14 else ⟨0, if resF ((c :: r).takeWhile isAl) then 4 else 1, ⟨((c :: r).takeWhile isAl).toArray⟩, 0, ((c :: r).takeWhile isAl).length⟩ := by
      rw [word_def, if_pos h1]
    by_cases h2 : ((c :: r).takeWhile isAl).length > 24
    · rw [hw, if_pos h2] at he; cases he
    · rw [if_neg h2] at hw
      have ht : txtW qb (wordW numF unqF (c :: r)) = (c :: r).takeWhile isAl := by
        rw [hw]; unfold txtW
        rw [if_neg (by dsimp only; split <;> decide)]
      rw [ht]
      have hall := tw_all (p := isAl) (c :: r)
      have hle : ((c :: r).takeWhile isAl).length ≤ (c :: r).length := (List.takeWhile_sublist isAl).length_le
      rw [tw_cons (al_let h1)] at ht hall hw h2 hle ⊢
      refine ⟨r.takeWhile isAl ++ b :: rest, rfl, fun h => by obtain ⟨rfl, _⟩ := h; exact absurd h1 (by decide), by rw [hw]; exact Nat.le_refl _, by rw [hw]; exact hle, ?_⟩
      have e1 : (c :: (r.takeWhile isAl ++ b :: rest)).takeWhile isAl = c :: r.takeWhile isAl := tw_app (c :: r.takeWhile isAl) b rest hall (bl_al hb)
      rw [hw]
      rw [word_def, if_pos h1, e1, if_neg h2]
  · by_cases h2 : isDig c = true
    · have hw : wordW numF unqF (c :: r) = numW numF (c :: r) := by
        rw [word_def, if_neg h1, if_pos h2]
      rw [hw] at he
      unfold numW at he
      by_cases h3 : (numF ((c :: r).takeWhile isDig)).2 = 4 ∨ ((((c :: r).dropWhile isDig).head?.map isLet) = some true)
      · rw [if_pos h3] at he; cases he
      · rw [if_neg h3] at he
        by_cases h4 : (numF ((c :: r).takeWhile isDig)).2 ≠ 0
        · rw [if_pos h4] at he; exact absurd he h4
        · have hw2 : wordW numF unqF (c :: r) = ⟨0, 2, ⟨((c :: r).takeWhile isDig).toArray⟩, (numF ((c :: r).takeWhile isDig)).1, ((c :: r).takeWhile isDig).length⟩ := by
            rw [hw]; unfold numW; rw [if_neg h3, if_neg h4]
          have ht : txtW qb (wordW numF unqF (c :: r)) = (c :: r).takeWhile isDig := by
            rw [hw2]; unfold txtW
            exact if_neg (show ¬ (2 : Int) = 3 by decide)
          rw [ht]
          have hall := tw_all (p := isDig) (c :: r)
          have hle : ((c :: r).takeWhile isDig).length ≤ (c :: r).length := (List.takeWhile_sublist isDig).length_le
          have h3' : ¬ (numF ((c :: r).takeWhile isDig)).2 = 4 := fun h => h3 (.inl h)
          rw [tw_cons h2] at ht hall hw2 hle h3' h4 ⊢
          refine ⟨r.takeWhile isDig ++ b :: rest, rfl, fun h => by obtain ⟨rfl, _⟩ := h; exact absurd h2 (by decide), by rw [hw2]; exact Nat.le_refl _, by rw [hw2]; exact hle, ?_⟩
          have e1 : (c :: (r.takeWhile isDig ++ b :: rest)).takeWhile isDig = c :: r.takeWhile isDig := tw_app (c :: r.takeWhile isDig) b rest hall (bl_dig hb)
          have e2 : (c :: (r.takeWhile isDig ++ b :: rest)).dropWhile isDig = b :: rest := dw_app (c :: r.takeWhile isDig) b rest hall (bl_dig hb)
          rw [hw2]
          rw [word_def, if_neg h1, if_pos h2]
          unfold numW
          rw [e1, e2, if_neg (by
            rintro (h | h)
            · exact h3' h
            · rw [List.head?_cons, Option.map_some, bl_let hb] at h; cases h), if_neg h4]
    · by_cases h3 : c = 34
      · subst h3
        have hw : wordW numF unqF (34 :: r) = strW unqF (34 :: r) := by
          rw [word_def, if_neg h1, if_neg h2, if_pos rfl]
        rw [hw] at he
        unfold strW at he
        cases hj : qend ((34 :: r).drop 1) with
        | none => rw [hj] at he; cases he
        | some j =>
          rw [hj] at he
          dsimp only at he
          by_cases h4 : (unqF ((34 :: r).take (j + 2))).2 = 0
          · have hw2 : wordW numF unqF (34 :: r) = ⟨0, 3, (unqF ((34 :: r).take (j + 2))).1, 0, j + 2⟩ := by
              rw [hw]; unfold strW; rw [hj]; dsimp only; rw [if_pos h4]
            have hf := hq.fore ((34 :: r).take (j + 2)) (unqF ((34 :: r).take (j + 2))).1 (Prod.ext rfl h4)
            generalize (unqF ((34 :: r).take (j + 2))).1 = t at hw2 hf
            have ht : txtW qb (wordW numF unqF (34 :: r)) = 34 :: (qb t ++ [34]) := by
              rw [hw2]; unfold txtW
              rw [if_pos rfl]
            have hz := qend_lt _ _ _ (Nat.le_refl _) hj
            rw [ht]
            refine ⟨qb t ++ 34 :: b :: rest, by simp, fun h => absurd h.1 (by decide), ?_, ?_, ?_⟩
            · rw [hw2, List.length_cons, List.length_append]
              have hlt := List.length_take_le (j + 2) (34 :: r)
              simp only [List.length_cons, List.length_nil]
              show (qb t).length + 1 + 1 ≤ j + 2
              omega
            · rw [hw2]
              simp only [List.drop_succ_cons, List.drop_zero] at hz
              rw [List.length_cons]
              show j + 2 ≤ r.length + 1
              omega
            · rw [hw2]
              rw [word_def, if_neg h1, if_neg h2, if_pos rfl]
              unfold strW
              have e1 : (34 :: (qb t ++ 34 :: b :: rest)).drop 1 = qb t ++ 34 :: (b :: rest) := rfl
              have e2 : (34 :: (qb t ++ 34 :: b :: rest)).take ((qb t).length + 2) = 34 :: (qb t ++ [34]) := by
                rw [List.take_succ_cons]
                congr 1
                rw [show qb t ++ 34 :: b :: rest = (qb t ++ [34]) ++ (b :: rest) by simp]
                exact List.take_left' (by simp)
              rw [e1, hq.qend]
              dsimp only
              rw [e2, hq.back t hf.1]
              simp
          · rw [if_neg h4] at he
            by_cases h5 : (unqF ((34 :: r).take (j + 2))).2 = 4
            · rw [if_pos h5] at he; cases he
            · rw [if_neg h5] at he; exact absurd he h4
      · have hw : wordW numF unqF (c :: r) = if signF (c :: r) = 0 then badW 14 else ⟨0, 4, ⟨((c :: r).take (signF (c :: r))).toArray⟩, 0, signF (c :: r)⟩ := by
          rw [word_def, if_neg h1, if_neg h2, if_neg h3]
        by_cases h4 : signF (c :: r) = 0
        · rw [hw, if_pos h4] at he; cases he
        · rw [if_neg h4] at hw
          have ht : txtW qb (wordW numF unqF (c :: r)) = (c :: r).take (signF (c :: r)) := by
            rw [hw]; unfold txtW
            exact if_neg (show ¬ (4 : Int) = 3 by decide)
          rw [ht]
          rcases sign_cases h4 with ⟨hs, hp⟩ | ⟨c', r', hcr, hs, ho⟩
          · rw [hs] at hw ⊢
            obtain ⟨x, y, hxy, hne⟩ := pair_two hp
            cases r with
            | nil => simp at hxy
            | cons d r =>
              have hcd : (c :: d :: r).take 2 = [c, d] := rfl
              rw [hcd] at hxy hp hw ⊢
              injection hxy with e1 e2
              injection e2 with e2 _
              subst e1 e2
              refine ⟨d :: b :: rest, rfl, fun h => by
                rcases hne with h' | h'
                · exact h' h.1
                · rw [List.head?_cons] at h; exact h' (Option.some.inj h.2), by rw [hw]; exact Nat.le_refl _, by rw [hw]; simp, ?_⟩
              rw [hw]
              have hsg : signF (c :: d :: b :: rest) = 2 := by
                unfold signF
                rw [if_pos (show pairW.contains ((c :: d :: b :: rest).take 2) = true from hp)]
              rw [word_def, if_neg h1, if_neg h2, if_neg h3, hsg, if_neg (by decide)]
              rfl
          · injection hcr with e1 e2
            subst e1 e2
            rw [hs] at hw ⊢
            have hcd : (c :: r).take 1 = [c] := rfl
            rw [hcd] at hw ⊢
            refine ⟨b :: rest, rfl, fun h => by
              rw [List.head?_cons] at h
              have := Option.some.inj h.2
              subst this
              exact absurd hb (by decide), by rw [hw]; exact Nat.le_refl _, by rw [hw]; simp, ?_⟩
            rw [hw]
            have hsg : signF (c :: b :: rest) = 1 := by
              unfold signF
              rw [if_neg (by rw [show (c :: b :: rest).take 2 = [c, b] from rfl, bl_pair hb]; decide)]
              dsimp only
              rw [if_pos ho]
            rw [word_def, if_neg h1, if_neg h2, if_neg h3, hsg, if_neg (by decide)]
            rfl
end
section
variable {numF : List UInt8 → Int × Int} {unqF : List UInt8 → ByteArray × Int} {qb : ByteArray → List UInt8}
def TokR (numF : List UInt8 → Int × Int) (unqF : List UInt8 → ByteArray × Int) (u : List UInt8) (l : Int) (a : List Tk) (x : List Tk × Int × Int) : Prop := ∃ k, tokW numF unqF k u l a = some x
theorem TokR.same {u : List UInt8} {l : Int} {a : List Tk} {x y : List Tk × Int × Int} (h : TokR numF unqF u l a x) (h2 : TokR numF unqF u l a y) : x = y := by
  obtain ⟨k, h⟩ := h
  obtain ⟨j, h2⟩ := h2
  exact tok_same h h2
theorem TokR.end_ (l : Int) (a : List Tk) : TokR numF unqF [] l a (a ++ [⟨5, ⟨#[]⟩, 0, l⟩], 0, 0) := ⟨1, rfl⟩
theorem TokR.nl {r : List UInt8} {l : Int} {a : List Tk} {x : List Tk × Int × Int} (h : TokR numF unqF r (l + 1) a x) : TokR numF unqF (10 :: r) l a x := by
  obtain ⟨k, h⟩ := h
  exact ⟨k + 1, by rw [tok_step, if_pos rfl]; exact h⟩
theorem TokR.bl {c : UInt8} {r : List UInt8} {l : Int} {a : List Tk} {x : List Tk × Int × Int} (hc : c = 32 ∨ c = 9 ∨ c = 13) (h : TokR numF unqF r l a x) : TokR numF unqF (c :: r) l a x := by
  obtain ⟨k, h⟩ := h
  refine ⟨k + 1, ?_⟩
  rw [tok_step, if_neg (by rcases hc with rfl | rfl | rfl <;> decide), if_pos hc]; exact h
theorem TokR.rem {r : List UInt8} {l : Int} {a : List Tk} {x : List Tk × Int × Int} (h : TokR numF unqF ((45 :: r).dropWhile (· != 10)) l a x) : TokR numF unqF (45 :: 45 :: r) l a x := by
  obtain ⟨k, h⟩ := h
  refine ⟨k + 1, ?_⟩
  rw [tok_step, if_neg (by decide), if_neg (by decide), if_pos ⟨rfl, rfl⟩]; exact h
theorem TokR.word {c : UInt8} {r : List UInt8} {l : Int} {a : List Tk} {x : List Tk × Int × Int} (hc : c ≠ 10 ∧ c ≠ 32 ∧ c ≠ 9 ∧ c ≠ 13) (hcc : ¬ (c = 45 ∧ r.head? = some 45)) (he : (wordW numF unqF (c :: r)).e = 0)
    (h : TokR numF unqF ((c :: r).drop (wordW numF unqF (c :: r)).z) l (a ++ [⟨(wordW numF unqF (c :: r)).k, (wordW numF unqF (c :: r)).t, (wordW numF unqF (c :: r)).n, l⟩]) x) : TokR numF unqF (c :: r) l a x := by
  obtain ⟨k, h⟩ := h
  refine ⟨k + 1, ?_⟩
  rw [tok_step, if_neg hc.1, if_neg (by rintro (h | h | h); exact hc.2.1 h; exact hc.2.2.1 h; exact hc.2.2.2 h), if_neg hcc, if_neg (fun h => h he)]; exact h
theorem TokR.bad {c : UInt8} {r : List UInt8} {l : Int} {a : List Tk} (hc : c ≠ 10 ∧ c ≠ 32 ∧ c ≠ 9 ∧ c ≠ 13) (hcc : ¬ (c = 45 ∧ r.head? = some 45)) (he : (wordW numF unqF (c :: r)).e ≠ 0) : TokR numF unqF (c :: r) l a ([], (wordW numF unqF (c :: r)).e, l) := by
  refine ⟨1, ?_⟩
  rw [tok_step, if_neg hc.1, if_neg (by rintro (h | h | h); exact hc.2.1 h; exact hc.2.2.1 h; exact hc.2.2.2 h), if_neg hcc, if_pos he]
def GoodT (numF : List UInt8 → Int × Int) (unqF : List UInt8 → ByteArray × Int) (t : Tk) : Prop :=
  ∃ c r, (c ≠ 10 ∧ c ≠ 32 ∧ c ≠ 9 ∧ c ≠ 13) ∧ ¬ (c = 45 ∧ r.head? = some 45) ∧ (wordW numF unqF (c :: r)).e = 0 ∧ t.k = (wordW numF unqF (c :: r)).k ∧ t.t = (wordW numF unqF (c :: r)).t ∧ t.n = (wordW numF unqF (c :: r)).n
def txtT (qb : ByteArray → List UInt8) (t : Tk) : List UInt8 := if t.k = 3 then 34 :: (qb t.t ++ [34]) else t.t.data.toList
theorem txt_eq {t : Tk} {w : Wd} (hk : t.k = w.k) (ht : t.t = w.t) : txtT qb t = txtW qb w := by unfold txtT txtW; rw [hk, ht]
theorem TokR.good (hq : QOk unqF qb) {t : Tk} (hg : GoodT numF unqF t) {b : UInt8} (hb : isBl b = true) {rest : List UInt8} {l : Int} {a : List Tk} {x : List Tk × Int × Int} (h : TokR numF unqF (b :: rest) l (a ++ [⟨t.k, t.t, t.n, l⟩]) x) : TokR numF unqF (txtT qb t ++ b :: rest) l a x := by
  obtain ⟨c, r, hc, hcc, he, e1, e2, e3⟩ := hg
  rw [txt_eq e1 e2]
  obtain ⟨r2, h1, h2, _, _, h5⟩ := word_same (numF := numF) hq hc hcc he hb rest
  have h6 : (c :: r2).drop (wordW numF unqF (c :: r2)).z = b :: rest := by
    rw [h5, ← h1]
    show (_ ++ b :: rest).drop (txtW qb (wordW numF unqF (c :: r))).length = _
    exact List.drop_left' rfl
  rw [h1]
  refine TokR.word hc h2 (by rw [h5]; exact he) ?_
  rw [h6, h5]
  rw [e1, e2, e3] at h
  exact h
def sepW (k : Nat) : List UInt8 := if k = 0 then [32] else if k = 1 then [10] else if k = 2 then [9, 13, 32] else [32, 45, 45, 32, 120, 32, 43, 32, 49, 32, 34, 32, 36, 10]
def kindAt (ks : List UInt8) (i : Nat) : Nat := match ks[i]? with | some k => k.toNat % 4 | none => 0
theorem kind_lt (ks : List UInt8) (i : Nat) : kindAt ks i < 4 := by
  unfold kindAt
  split
  · exact Nat.mod_lt _ (by decide)
  · decide
theorem sep_head (k : Nat) : ∃ b r, sepW k = b :: r ∧ isBl b = true := by
  unfold sepW
  split
  · exact ⟨_, _, rfl, rfl⟩
  · split
    · exact ⟨_, _, rfl, rfl⟩
    · split
      · exact ⟨_, _, rfl, rfl⟩
      · exact ⟨_, _, rfl, rfl⟩
theorem TokR.sep {k : Nat} (hk : k < 4) {rest : List UInt8} {l : Int} {a : List Tk} {x : List Tk × Int × Int} (h : TokR numF unqF rest (l + ((k % 2 : Nat) : Int)) a x) : TokR numF unqF (sepW k ++ rest) l a x := by
  obtain rfl | rfl | rfl | rfl : k = 0 ∨ k = 1 ∨ k = 2 ∨ k = 3 := by omega
  · exact TokR.bl (.inl rfl) (by simpa using h)
  · exact TokR.nl h
  · exact TokR.bl (.inr (.inl rfl)) (TokR.bl (.inr (.inr rfl)) (TokR.bl (.inl rfl) (by simpa using h)))
  · exact TokR.bl (.inl rfl) (TokR.rem (TokR.nl h))
def bW (qb : ByteArray → List UInt8) (ks : List UInt8) : Nat → List Tk → List UInt8
  | _, [] => []
  | i, t :: ts => txtT qb t ++ (sepW (kindAt ks i) ++ bW qb ks (i + 1) ts)
def lW (ks : List UInt8) : Nat → Int
  | 0 => 0
  | i + 1 => lW ks i + ((kindAt ks i % 2 : Nat) : Int)
def reW (ks : List UInt8) : Nat → List Tk → List Tk
  | _, [] => []
  | i, t :: ts => ⟨t.k, t.t, t.n, lW ks i⟩ :: reW ks (i + 1) ts
theorem TokR.back (hq : QOk unqF qb) (ks : List UInt8) : ∀ (ts : List Tk) (i : Nat) (a : List Tk) (rest : List UInt8) (x : List Tk × Int × Int), (∀ t ∈ ts, GoodT numF unqF t) → TokR numF unqF rest (lW ks (i + ts.length)) (a ++ reW ks i ts) x → TokR numF unqF (bW qb ks i ts ++ rest) (lW ks i) a x
  | [], i, a, rest, x, _, h => by simpa [bW, reW] using h
  | t :: ts, i, a, rest, x, hg, h => by
    obtain ⟨b, r, hs, hb⟩ := sep_head (kindAt ks i)
    have hx := TokR.back hq ks ts (i + 1) (a ++ [⟨t.k, t.t, t.n, lW ks i⟩]) rest x (fun t ht => hg t (List.mem_cons_of_mem _ ht)) (by
      rw [List.length_cons, show i + (ts.length + 1) = i + 1 + ts.length by omega] at h
      simpa [reW] using h)
    have h2 : TokR numF unqF (sepW (kindAt ks i) ++ (bW qb ks (i + 1) ts ++ rest)) (lW ks i) (a ++ [⟨t.k, t.t, t.n, lW ks i⟩]) x := TokR.sep (kind_lt ks i) hx
    have e : bW qb ks i (t :: ts) ++ rest = txtT qb t ++ (sepW (kindAt ks i) ++ (bW qb ks (i + 1) ts ++ rest)) := by
      rw [show bW qb ks i (t :: ts) = txtT qb t ++ (sepW (kindAt ks i) ++ bW qb ks (i + 1) ts) from rfl]; simp
    rw [e]
    rw [hs, List.cons_append] at h2 ⊢
    exact TokR.good hq (hg t (List.mem_cons_self ..)) hb h2
end
section
variable {numF : List UInt8 → Int × Int} {unqF : List UInt8 → ByteArray × Int}
def isNm (u : List UInt8) : Bool := decide (0 < u.length) && (decide (u.length ≤ 40) && ((u.head?.map isLet == some true) && u.all isAl))
theorem res_nm {u : List UInt8} (h : resF u = true) : isNm u = true := by
  have hm := List.contains_iff_mem.mp h
  have : resW.all isNm = true := by kernel_rfl
  exact List.all_eq_true.1 this u hm
theorem name_long {u : List UInt8} (h : isNm u = true) (hl : 24 < u.length) : TokR numF unqF (32 :: (u ++ [40])) 0 [] ([], 14, 0) := by
  unfold isNm at h
  simp only [Bool.and_eq_true, decide_eq_true_eq, beq_iff_eq] at h
  obtain ⟨h0, _, h1, h2⟩ := h
  cases u with
  | nil => cases h0
  | cons c r =>
    rw [List.head?_cons, Option.map_some] at h1
    have hc : isLet c = true := Option.some.inj h1
    have ht : (c :: (r ++ [40])).takeWhile isAl = c :: r := tw_app (c :: r) 40 [] (fun d hd => List.all_eq_true.1 h2 d hd) (by decide)
    refine TokR.bl (.inl rfl) ?_
    show TokR numF unqF (c :: (r ++ [40])) _ _ _
    have hb : (wordW numF unqF (c :: (r ++ [40]))) = badW 14 := by
      rw [word_def, if_pos hc, ht, if_pos hl]
    have := TokR.bad (numF := numF) (unqF := unqF) (c := c) (r := r ++ [40]) (l := 0) (a := []) ?_ ?_ (by rw [hb]; decide)
    · rw [hb] at this; exact this
    · refine ⟨?_, ?_, ?_, ?_⟩ <;> (rintro rfl; exact absurd hc (by decide))
    · rintro ⟨rfl, _⟩; exact absurd hc (by decide)
theorem name_short {u : List UInt8} (h : isNm u = true) (hl : u.length ≤ 24) : TokR numF unqF (32 :: (u ++ [40])) 0 [] ([⟨if resF u then 4 else 1, ⟨u.toArray⟩, 0, 0⟩, ⟨4, ⟨#[40]⟩, 0, 0⟩, ⟨5, ⟨#[]⟩, 0, 0⟩], 0, 0) := by
  unfold isNm at h
  simp only [Bool.and_eq_true, decide_eq_true_eq, beq_iff_eq] at h
  obtain ⟨h0, _, h1, h2⟩ := h
  cases u with
  | nil => cases h0
  | cons c r =>
    rw [List.head?_cons, Option.map_some] at h1
    have hc : isLet c = true := Option.some.inj h1
    have ht : (c :: (r ++ [40])).takeWhile isAl = c :: r := tw_app (c :: r) 40 [] (fun d hd => List.all_eq_true.1 h2 d hd) (by decide)
    refine TokR.bl (.inl rfl) ?_
    show TokR numF unqF (c :: (r ++ [40])) _ _ _
    have hb : (wordW numF unqF (c :: (r ++ [40]))) = ⟨0, if resF (c :: r) then 4 else 1, ⟨(c :: r).toArray⟩, 0, (c :: r).length⟩ := by
      rw [word_def, if_pos hc, ht, if_neg (by omega)]
    have hd : (c :: (r ++ [40])).drop (c :: r).length = [40] := List.drop_left' (l₁ := c :: r) rfl
    have h40 : wordW numF unqF [40] = ⟨0, 4, ⟨#[40]⟩, 0, 1⟩ := rfl
    refine TokR.word ?_ ?_ (by rw [hb]) ?_
    · refine ⟨?_, ?_, ?_, ?_⟩ <;> (rintro rfl; exact absurd hc (by decide))
    · rintro ⟨rfl, _⟩; exact absurd hc (by decide)
    · rw [hb, hd]
      refine TokR.word (by decide) (fun h => absurd h.1 (by decide)) (by rw [h40]) ?_
      rw [h40]
      exact TokR.end_ _ _
end
end Go.Proofs.YtlbaejihlcfpeaaDoor.G
end
