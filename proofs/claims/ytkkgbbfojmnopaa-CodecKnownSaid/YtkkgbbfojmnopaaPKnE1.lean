import Derived.WalkKit
import Derived.WalkLawsBesides
import Derived.Deep.RegionLaw
import Derived.Deep.Cut
import Derived.WalkSpells
import Derived.Recover
import Derived.Laws.Bits64b
import Derived.Test.YtkkgbbfojmnopaaProg
import Derived.Test.YtkkgbbfojmnopaaPKnW0
set_option linter.unusedVariables false
set_option linter.unusedSimpArgs false
section
namespace Go.Proofs.Ytkkgbbfojmnopaa.G
open Go.RowKit Go.Proofs.YtkkgbbfojmnopaaW.PrintWords Go.Proofs.YtkkgbbfojmnopaaW.PrintLast Go.Proofs.YtkkgbbfojmnopaaW.PrintMore
set_option linter.unusedVariables false
set_option linter.unusedSimpArgs false
def putF : Nat → Nat → List UInt8
  | 0, n => [UInt8.ofNat n]
  | f + 1, n => if n < 128 then [UInt8.ofNat n] else UInt8.ofNat (n % 128 + 128) :: putF f (n / 128)
def putN (n : Nat) : List UInt8 := putF 9 n
def numGo : Nat → Nat → Nat → List UInt8 → Option (Nat × List UInt8)
  | _, _, _, [] => none
  | 0, i, acc, b :: r => if 0 < b.toNat ∧ b.toNat ≤ 1 then some (acc + b.toNat * 2 ^ (7 * i), r) else none
  | f + 1, i, acc, b :: r => if b.toNat < 128 then (if 0 < b.toNat ∨ i = 0 then some (acc + b.toNat * 2 ^ (7 * i), r) else none) else numGo f (i + 1) (acc + (b.toNat - 128) * 2 ^ (7 * i)) r
def number (l : List UInt8) : Option (Nat × List UInt8) := numGo 9 0 0 l
theorem u8_lit {n : Nat} (h : n < 256) : (UInt8.ofNat n).toNat = n := by
  rw [UInt8.toNat_ofNat']
  exact Nat.mod_eq_of_lt h
theorem pow7 (i : Nat) : 2 ^ (7 * (i + 1)) = 128 * 2 ^ (7 * i) := by rw [show 7 * (i + 1) = 7 * i + 7 by omega, Nat.pow_add]; omega
theorem num_rt : ∀ (f i acc n : Nat) (r : List UInt8), n < 2 * 128 ^ f → (i = 0 ∨ 0 < n) → (f = 0 → 0 < n) → numGo f i acc (putF f n ++ r) = some (acc + n * 2 ^ (7 * i), r)
  | 0, i, acc, n, r, h, h0, h1 => by
    have hn : n = 1 := by have := h1 rfl; simp at h; omega
    subst hn
    rfl
  | f + 1, i, acc, n, r, h, h0, _ => by
    unfold putF
    by_cases hn : n < 128
    · rw [if_pos hn]
      show numGo (f + 1) i acc (UInt8.ofNat n :: r) = _
      rw [numGo, u8_lit (by omega), if_pos hn, if_pos (by omega)]
    · rw [if_neg hn]
      show numGo (f + 1) i acc (UInt8.ofNat (n % 128 + 128) :: (putF f (n / 128) ++ r)) = _
      have hp : 128 ^ (f + 1) = 128 * 128 ^ f := by rw [Nat.pow_succ]; omega
      rw [numGo, u8_lit (by omega), if_neg (by omega), num_rt f (i + 1) _ (n / 128) r (by omega) (.inr (by omega)) (fun _ => by omega), pow7, Nat.add_sub_cancel]
      congr 2
      rw [Nat.add_assoc]
      congr 1
      rw [← Nat.mul_assoc, ← Nat.add_mul]
      congr 1
      omega
theorem num_un : ∀ (f i acc v : Nat) (l r : List UInt8), numGo f i acc l = some (v, r) → ∃ n, n < 2 * 128 ^ f ∧ v = acc + n * 2 ^ (7 * i) ∧ l = putF f n ++ r ∧ (i = 0 ∨ 0 < n) ∧ (f = 0 → 0 < n)
  | f, i, acc, v, [], r, h => by cases f <;> simp [numGo] at h
  | 0, i, acc, v, b :: l, r, h => by
    rw [numGo] at h
    by_cases hb : 0 < b.toNat ∧ b.toNat ≤ 1
    · rw [if_pos hb] at h
      injection h with h
      injection h with h1 h2
      refine ⟨b.toNat, by simp; omega, h1.symm, ?_, .inr hb.1, fun _ => hb.1⟩
      rw [← h2, putF, UInt8.ofNat_toNat]; rfl
    · rw [if_neg hb] at h; cases h
  | f + 1, i, acc, v, b :: l, r, h => by
    rw [numGo] at h
    have hp : 128 ^ (f + 1) = 128 * 128 ^ f := by rw [Nat.pow_succ]; omega
    have hpos : 0 < 128 ^ f := Nat.pow_pos (by decide)
    by_cases hb : b.toNat < 128
    · rw [if_pos hb] at h
      by_cases h0 : 0 < b.toNat ∨ i = 0
      · rw [if_pos h0] at h
        injection h with h
        injection h with h1 h2
        refine ⟨b.toNat, by omega, h1.symm, ?_, by omega, fun h => by cases h⟩
        rw [← h2, putF, if_pos hb, UInt8.ofNat_toNat]; rfl
      · rw [if_neg h0] at h; cases h
    · rw [if_neg hb] at h
      obtain ⟨n, h1, h2, h3, h4, h5⟩ := num_un f (i + 1) _ v l r h
      have hb2 : b.toNat < 256 := b.toNat_lt
      have hn0 : 0 < n := by omega
      refine ⟨n * 128 + (b.toNat - 128), by omega, ?_, ?_, .inr (by omega), fun h => by cases h⟩
      · have e : (b.toNat - 128) * 2 ^ (7 * i) + n * (128 * 2 ^ (7 * i)) = (n * 128 + (b.toNat - 128)) * 2 ^ (7 * i) := by rw [Nat.add_mul, Nat.mul_assoc, Nat.add_comm]
        rw [h2, pow7, Nat.add_assoc, e]
      · rw [putF, if_neg (by omega), show (n * 128 + (b.toNat - 128)) % 128 + 128 = b.toNat by omega, show (n * 128 + (b.toNat - 128)) / 128 = n by omega, UInt8.ofNat_toNat, h3]; rfl
theorem pow64 : 2 * 128 ^ 9 = 2 ^ 64 := by decide +kernel
structure Cod (α : Type) where
  enc : α → List UInt8
  dec : List UInt8 → Option (α × List UInt8)
  ok : α → Prop
  rt : ∀ x r, ok x → dec (enc x ++ r) = some (x, r)
  un : ∀ l x r, dec l = some (x, r) → ok x ∧ l = enc x ++ r
namespace Cod
def num : Cod Nat where
  enc := putN
  dec := number
  ok := fun n => n < 2 ^ 64
  rt := fun n r h => by
    have := num_rt 9 0 0 n r (by rw [pow64]; exact h) (.inl rfl) (fun h => by cases h)
    show numGo 9 0 0 (putF 9 n ++ r) = some (n, r)
    rw [this]
    simp
  un := fun l x r h => by
    obtain ⟨n, h1, h2, h3, _⟩ := num_un 9 0 0 x l r h
    have e : x = n := by rw [h2]; simp
    subst e
    exact ⟨by rw [← pow64]; exact h1, h3⟩
def only {α : Type} (c : Cod α) (p : α → Bool) : Cod α where
  enc := c.enc
  dec := fun l => match c.dec l with | some (x, r) => if p x = true then some (x, r) else none | none => none
  ok := fun x => c.ok x ∧ p x = true
  rt := fun x r h => by simp only [c.rt x r h.1, h.2, if_true]
  un := fun l x r h => by
    cases hd : c.dec l with
    | none => rw [hd] at h; cases h
    | some y =>
      rw [hd] at h
      obtain ⟨y, s⟩ := y
      simp only at h
      by_cases hp : p y = true
      · rw [if_pos hp] at h
        injection h with h
        injection h with h1 h2
        subst h1
        subst h2
        obtain ⟨a, b⟩ := c.un l y s hd
        exact ⟨⟨a, hp⟩, b⟩
      · rw [if_neg hp] at h; cases h
def nat (m : Nat) : Cod Nat := num.only fun n => decide (n ≤ m)
def seq {α β : Type} (c : Cod α) (d : Cod β) : Cod (α × β) where
  enc := fun x => c.enc x.1 ++ d.enc x.2
  dec := fun l => match c.dec l with | some (x, r) => (match d.dec r with | some (y, s) => some ((x, y), s) | none => none) | none => none
  ok := fun x => c.ok x.1 ∧ d.ok x.2
  rt := fun x r h => by simp only [List.append_assoc, c.rt x.1 _ h.1, d.rt x.2 r h.2]
  un := fun l x r h => by
    cases hc : c.dec l with
    | none => rw [hc] at h; cases h
    | some y =>
      obtain ⟨y, s⟩ := y
      rw [hc] at h
      simp only at h
      cases hd : d.dec s with
      | none => rw [hd] at h; cases h
      | some z =>
        obtain ⟨z, t⟩ := z
        rw [hd] at h
        injection h with h
        injection h with h1 h2
        subst h1
        subst h2
        obtain ⟨a1, a2⟩ := c.un l y s hc
        obtain ⟨b1, b2⟩ := d.un s z t hd
        exact ⟨⟨a1, b1⟩, by rw [a2, b2, List.append_assoc]⟩
def iso {α β : Type} (c : Cod α) (f : α → β) (g : β → α) (hgf : ∀ a, c.ok a → g (f a) = a) : Cod β where
  enc := fun b => c.enc (g b)
  dec := fun l => match c.dec l with | some (x, r) => some (f x, r) | none => none
  ok := fun b => c.ok (g b) ∧ f (g b) = b
  rt := fun b r h => by simp only [c.rt _ r h.1, h.2]
  un := fun l x r h => by
    cases hc : c.dec l with
    | none => rw [hc] at h; cases h
    | some y =>
      obtain ⟨y, s⟩ := y
      rw [hc] at h
      injection h with h
      injection h with h1 h2
      subst h1
      subst h2
      obtain ⟨a1, a2⟩ := c.un l y s hc
      have e := hgf y a1
      exact ⟨⟨by rw [e]; exact a1, by rw [e]⟩, by rw [e]; exact a2⟩
def repDec {α : Type} (c : Cod α) : Nat → List UInt8 → Option (List α × List UInt8)
  | 0, l => some ([], l)
  | n + 1, l => match c.dec l with | some (x, r) => (match repDec c n r with | some (xs, s) => some (x :: xs, s) | none => none) | none => none
theorem rep_rt {α : Type} (c : Cod α) : ∀ (xs : List α) (r : List UInt8), (∀ x ∈ xs, c.ok x) → repDec c xs.length (xs.flatMap c.enc ++ r) = some (xs, r)
  | [], r, _ => rfl
  | x :: xs, r, h => by
    show (match c.dec ((c.enc x ++ xs.flatMap c.enc) ++ r) with | some (x, r) => (match repDec c xs.length r with | some (xs, s) => some (x :: xs, s) | none => none) | none => none) = _
    rw [List.append_assoc]
    simp only [c.rt x _ (h x List.mem_cons_self), rep_rt c xs r fun y hy => h y (List.mem_cons_of_mem _ hy)]
theorem rep_un {α : Type} (c : Cod α) : ∀ (n : Nat) (l : List UInt8) (xs : List α) (r : List UInt8), repDec c n l = some (xs, r) → xs.length = n ∧ (∀ x ∈ xs, c.ok x) ∧ l = xs.flatMap c.enc ++ r
  | 0, l, xs, r, h => by
    injection h with h
    injection h with h1 h2
    subst h1
    subst h2
    exact ⟨rfl, fun x hx => by (cases hx), rfl⟩
  | n + 1, l, xs, r, h => by
    rw [repDec] at h
    cases hc : c.dec l with
    | none => rw [hc] at h; cases h
    | some y =>
      obtain ⟨y, s⟩ := y
      rw [hc] at h
      simp only at h
      cases hd : repDec c n s with
      | none => rw [hd] at h; cases h
      | some z =>
        obtain ⟨z, t⟩ := z
        rw [hd] at h
        injection h with h
        injection h with h1 h2
        subst h1
        subst h2
        obtain ⟨a1, a2⟩ := c.un l y s hc
        obtain ⟨b1, b2, b3⟩ := rep_un c n s z t hd
        refine ⟨by rw [List.length_cons, b1], fun x hx => ?_, by rw [a2, b3, List.flatMap_cons, List.append_assoc]⟩
        rcases List.mem_cons.1 hx with rfl | hx
        · exact a1
        · exact b2 x hx
def list {α : Type} (m : Nat) (hm : m < 2 ^ 64) (c : Cod α) : Cod (List α) where
  enc := fun xs => putN xs.length ++ xs.flatMap c.enc
  dec := fun l => match (nat m).dec l with | some (n, r) => repDec c n r | none => none
  ok := fun xs => xs.length ≤ m ∧ ∀ x ∈ xs, c.ok x
  rt := fun xs r h => by
    have h1 := (nat m).rt xs.length (xs.flatMap c.enc ++ r) ⟨Nat.lt_of_le_of_lt h.1 hm, decide_eq_true h.1⟩
    have e : putN xs.length ++ xs.flatMap c.enc ++ r = (nat m).enc xs.length ++ (xs.flatMap c.enc ++ r) := by rw [List.append_assoc]; rfl
    rw [e]
    simp only [h1, rep_rt c xs r h.2]
  un := fun l xs r h => by
    cases hc : (nat m).dec l with
    | none => rw [hc] at h; cases h
    | some y =>
      obtain ⟨n, s⟩ := y
      rw [hc] at h
      simp only at h
      obtain ⟨a1, a2⟩ := (nat m).un l n s hc
      obtain ⟨b1, b2, b3⟩ := rep_un c n s xs r h
      exact ⟨⟨by rw [b1]; exact of_decide_eq_true a1.2, b2⟩, by rw [a2, b3, b1, List.append_assoc]; rfl⟩
def text (m : Nat) (hm : m < 2 ^ 64) : Cod (List UInt8) where
  enc := fun t => putN t.length ++ t
  dec := fun l => match (nat m).dec l with | some (n, r) => if n ≤ r.length then some (r.take n, r.drop n) else none | none => none
  ok := fun t => t.length ≤ m
  rt := fun t r h => by
    have h1 := (nat m).rt t.length (t ++ r) ⟨Nat.lt_of_le_of_lt h hm, decide_eq_true h⟩
    have e : putN t.length ++ t ++ r = (nat m).enc t.length ++ (t ++ r) := by rw [List.append_assoc]; rfl
    rw [e]
    simp only [h1]
    rw [if_pos (by rw [List.length_append]; omega), List.take_left, List.drop_left]
  un := fun l t r h => by
    cases hc : (nat m).dec l with
    | none => rw [hc] at h; cases h
    | some y =>
      obtain ⟨n, s⟩ := y
      rw [hc] at h
      simp only at h
      by_cases hn : n ≤ s.length
      · rw [if_pos hn] at h
        injection h with h
        injection h with h1 h2
        subst h1
        subst h2
        obtain ⟨a1, a2⟩ := (nat m).un l n s hc
        have hl : (s.take n).length = n := by rw [List.length_take]; omega
        refine ⟨by rw [hl]; exact of_decide_eq_true a1.2, ?_⟩
        rw [hl, List.append_assoc, List.take_append_drop]
        exact a2
      · rw [if_neg hn] at h; cases h
def alt {α β : Type} (c : Cod α) (d : Cod β) : Cod (α ⊕ β) where
  enc := fun x => match x with | .inl a => putN 0 ++ c.enc a | .inr b => putN 1 ++ d.enc b
  dec := fun l => match (nat 1).dec l with
    | some (n, r) => if n = 0 then (match c.dec r with | some (x, s) => some (.inl x, s) | none => none) else (match d.dec r with | some (x, s) => some (.inr x, s) | none => none)
    | none => none
  ok := fun x => match x with | .inl a => c.ok a | .inr b => d.ok b
  rt := fun x r h => by
    cases x with
    | inl a =>
      have h1 := (nat 1).rt 0 (c.enc a ++ r) ⟨show 0 < 2 ^ 64 from Nat.pow_pos (by decide), rfl⟩
      have h2 : (nat 1).dec (putN 0 ++ c.enc a ++ r) = some (0, c.enc a ++ r) := by rw [List.append_assoc]; exact h1
      show (match (nat 1).dec (putN 0 ++ c.enc a ++ r) with | some (n, r) => if n = 0 then (match c.dec r with | some (x, s) => some (Sum.inl x, s) | none => none) else (match d.dec r with | some (x, s) => some (Sum.inr x, s) | none => none) | none => none) = _
      rw [h2]
      simp only [if_true, c.rt a r h]
    | inr b =>
      have h1 := (nat 1).rt 1 (d.enc b ++ r) ⟨show 1 < 2 ^ 64 from Nat.one_lt_two_pow (by decide), rfl⟩
      have h2 : (nat 1).dec (putN 1 ++ d.enc b ++ r) = some (1, d.enc b ++ r) := by rw [List.append_assoc]; exact h1
      show (match (nat 1).dec (putN 1 ++ d.enc b ++ r) with | some (n, r) => if n = 0 then (match c.dec r with | some (x, s) => some (Sum.inl x, s) | none => none) else (match d.dec r with | some (x, s) => some (Sum.inr x, s) | none => none) | none => none) = _
      rw [h2]
      simp only [d.rt b r h]
      rfl
  un := fun l x r h => by
    cases hc : (nat 1).dec l with
    | none => rw [hc] at h; cases h
    | some y =>
      obtain ⟨n, s⟩ := y
      rw [hc] at h
      simp only at h
      obtain ⟨a1, a2⟩ := (nat 1).un l n s hc
      have hn : n ≤ 1 := of_decide_eq_true a1.2
      by_cases h0 : n = 0
      · rw [if_pos h0] at h
        subst h0
        cases hd : c.dec s with
        | none => rw [hd] at h; cases h
        | some z =>
          obtain ⟨z, t⟩ := z
          rw [hd] at h
          injection h with h
          injection h with h1 h2
          subst h1
          subst h2
          obtain ⟨b1, b2⟩ := c.un s z t hd
          exact ⟨b1, by rw [a2, b2]; exact (List.append_assoc _ _ _).symm⟩
      · rw [if_neg h0] at h
        obtain rfl : n = 1 := by omega
        cases hd : d.dec s with
        | none => rw [hd] at h; cases h
        | some z =>
          obtain ⟨z, t⟩ := z
          rw [hd] at h
          injection h with h
          injection h with h1 h2
          subst h1
          subst h2
          obtain ⟨b1, b2⟩ := d.un s z t hd
          exact ⟨b1, by rw [a2, b2]; exact (List.append_assoc _ _ _).symm⟩
def zig (z : Int) : Nat := if 0 ≤ z then (2 * z).toNat else (-2 * z - 1).toNat
def zag (n : Nat) : Int := if n % 2 = 0 then ((n / 2 : Nat) : Int) else -((n / 2 : Nat) : Int) - 1
theorem zig_zag (n : Nat) : zig (zag n) = n := by
  unfold zig zag
  by_cases h : n % 2 = 0
  · rw [if_pos h, if_pos (by omega)]; omega
  · rw [if_neg h, if_neg (by omega)]; omega
theorem zag_zig (z : Int) : zag (zig z) = z := by
  unfold zig zag
  by_cases h : 0 ≤ z
  · rw [if_pos h, if_pos (by omega)]; omega
  · rw [if_neg h, if_neg (by omega)]; omega
def int : Cod Int := num.iso zag zig fun a _ => zig_zag a
end Cod
def wrongP : List PanicEntry := [{ v := .iface 59 (.agg #[]), recovered := false }]
theorem need_any (b : Bool) (w : World) : Calls Try.prog 25 #[.bool b] w fun e w' => w' = w ∧ e = (if b = true then .returned (.tuple #[]) else .panicked wrongP) := by
  cases b with
  | true =>
    go_enter Try.func25, Try.ntmps25
    go_wp2_with fail
    exact bodyPost_end (results_none rfl _ _ _) rfl ⟨rfl, rfl⟩
  | false =>
    go_enter Try.func25, Try.ntmps25
    go_wp2_with fail
    exact ⟨rfl, rfl, rfl⟩
end Go.Proofs.Ytkkgbbfojmnopaa.G
end
