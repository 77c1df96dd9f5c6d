import Derived.WalkKit
import Derived.WalkLawsBesides
import Derived.Deep.RegionLaw
import Derived.Deep.Cut
import Derived.WalkSpells
import Derived.Recover
import Derived.Laws.Bits64b
import Derived.Test.YtkkgbbfojmnopaaProg
import Derived.Test.YtkkgbbfojmnopaaPReW0
set_option linter.unusedVariables false
set_option linter.unusedSimpArgs false
section
namespace Go.Proofs.Ytkkgbbfojmnopaa.G
open Go.RowKit Go.Proofs.YtkkgbbfojmnopaaW.PrintWords Go.Proofs.YtkkgbbfojmnopaaW.PrintLast Go.Proofs.YtkkgbbfojmnopaaW.PrintMore
def putF : Nat → Nat → List UInt8
 | 0, n => [UInt8.ofNat n]
 | f + 1, n => if n < 128 then [UInt8.ofNat n] else UInt8.ofNat (n % 128 + 128) :: putF f (n / 128)
def putN (n : Nat) : List UInt8 := putF 9 n
def numGo : Nat → Nat → Nat → List UInt8 → Option (Nat × List UInt8)
 | _, _, _, [] => none
 | 0, i, acc, b :: r => if 0 < b.toNat ∧ b.toNat ≤ 1 then some (acc + b.toNat * 2 ^ (7 * i), r) else none
 | f + 1, i, acc, b :: r => if b.toNat < 128 then (if 0 < b.toNat ∨ i = 0 then some (acc + b.toNat * 2 ^ (7 * i), r) else none) else numGo f (i + 1) (acc + (b.toNat - 128) * 2 ^ (7 * i)) r
def number (l : List UInt8) : Option (Nat × List UInt8) := numGo 9 0 0 l
theorem u8_lit {n : Nat} (h : n < 256) : (UInt8.ofNat n).toNat = n := by
 rw [UInt8.toNat_ofNat']
 exact Nat.mod_eq_of_lt h
theorem pow7 (i : Nat) : 2 ^ (7 * (i + 1)) = 128 * 2 ^ (7 * i) := by rw [show 7 * (i + 1) = 7 * i + 7 by omega, Nat.pow_add]; omega
theorem num_rt : ∀ (f i acc n : Nat) (r : List UInt8), n < 2 * 128 ^ f → (i = 0 ∨ 0 < n) → (f = 0 → 0 < n) → numGo f i acc (putF f n ++ r) = some (acc + n * 2 ^ (7 * i), r)
 | 0, i, acc, n, r, h, h0, h1 => by
  have hn : n = 1 := by have := h1 rfl; simp at h; omega
  subst hn
  rfl
 | f + 1, i, acc, n, r, h, h0, _ => by
  unfold putF
  by_cases hn : n < 128
  ·rw [if_pos hn]
   show numGo (f + 1) i acc (UInt8.ofNat n :: r) = _
   rw [numGo, u8_lit (by omega), if_pos hn, if_pos (by omega)]
  rw [if_neg hn]
  show numGo (f + 1) i acc (UInt8.ofNat (n % 128 + 128) :: (putF f (n / 128) ++ r)) = _
  have hp : 128 ^ (f + 1) = 128 * 128 ^ f := by rw [Nat.pow_succ]; omega
  rw [numGo, u8_lit (by omega), if_neg (by omega), num_rt f (i + 1) _ (n / 128) r (by omega) (.inr (by omega)) (fun _ => by omega), pow7, Nat.add_sub_cancel]
  congr 2
  rw [Nat.add_assoc]
  congr 1
  rw [← Nat.mul_assoc, ← Nat.add_mul]
  congr 1
  omega
theorem num_un : ∀ (f i acc v : Nat) (l r : List UInt8), numGo f i acc l = some (v, r) → ∃ n, n < 2 * 128 ^ f ∧ v = acc + n * 2 ^ (7 * i) ∧ l = putF f n ++ r ∧ (i = 0 ∨ 0 < n) ∧ (f = 0 → 0 < n)
 | f, i, acc, v, [], r, h => by cases f <;> simp [numGo] at h
 | 0, i, acc, v, b :: l, r, h => by
  rw [numGo] at h
  by_cases hb : 0 < b.toNat ∧ b.toNat ≤ 1
  case neg =>
   rw [if_neg hb] at h; cases h
  rw [if_pos hb] at h
  injection h with h
  injection h with h1 h2
  refine ⟨b.toNat, by simp; omega, h1.symm, ?_, .inr hb.1, fun _ => hb.1⟩
  rw [← h2, putF, UInt8.ofNat_toNat]; rfl
 | f + 1, i, acc, v, b :: l, r, h => by
  rw [numGo] at h
  have hp : 128 ^ (f + 1) = 128 * 128 ^ f := by rw [Nat.pow_succ]; omega
  have hpos : 0 < 128 ^ f := Nat.pow_pos (by decide)
  by_cases hb : b.toNat < 128
  ·rw [if_pos hb] at h
   by_cases h0 : 0 < b.toNat ∨ i = 0
   case neg =>
    rw [if_neg h0] at h; cases h
   rw [if_pos h0] at h
   injection h with h
   injection h with h1 h2
   refine ⟨b.toNat, by omega, h1.symm, ?_, by omega, fun h => by cases h⟩
   rw [← h2, putF, if_pos hb, UInt8.ofNat_toNat]; rfl
  rw [if_neg hb] at h
  obtain ⟨n, h1, h2, h3, h4, h5⟩ := num_un f (i + 1) _ v l r h
  have hb2 : b.toNat < 256 := b.toNat_lt
  have hn0 : 0 < n := by omega
  refine ⟨n * 128 + (b.toNat - 128), by omega, ?_, ?_, .inr (by omega), fun h => by cases h⟩
  ·have e : (b.toNat - 128) * 2 ^ (7 * i) + n * (128 * 2 ^ (7 * i)) = (n * 128 + (b.toNat - 128)) * 2 ^ (7 * i) := by rw [Nat.add_mul, Nat.mul_assoc, Nat.add_comm]
   rw [h2, pow7, Nat.add_assoc, e]
  ·rw [putF, if_neg (by omega), show (n * 128 + (b.toNat - 128)) % 128 + 128 = b.toNat by omega, show (n * 128 + (b.toNat - 128)) / 128 = n by omega, UInt8.ofNat_toNat, h3]; rfl
theorem pow64 : 2 * 128 ^ 9 = 2 ^ 64 := by decide +kernel
structure Cod (α : Type) where
 enc : α → List UInt8
 dec : List UInt8 → Option (α × List UInt8)
 ok : α → Prop
 rt : ∀ x r, ok x → dec (enc x ++ r) = some (x, r)
 un : ∀ l x r, dec l = some (x, r) → ok x ∧ l = enc x ++ r
namespace Cod
def num : Cod Nat where
 enc := putN
 dec := number
 ok := fun n => n < 2 ^ 64
 rt := fun n r h => by
  have := num_rt 9 0 0 n r (by rw [pow64]; exact h) (.inl rfl) (fun h => by cases h)
  show numGo 9 0 0 (putF 9 n ++ r) = some (n, r)
  rw [this]
  simp
 un := fun l x r h => by
  obtain ⟨n, h1, h2, h3, _⟩ := num_un 9 0 0 x l r h
  have e : x = n := by rw [h2]; simp
  subst e
  exact ⟨by rw [← pow64]; exact h1, h3⟩
def only {α : Type} (c : Cod α) (p : α → Bool) : Cod α where
 enc := c.enc
 dec := fun l => match c.dec l with | some (x, r) => if p x = true then some (x, r) else none | none => none
 ok := fun x => c.ok x ∧ p x = true
 rt := fun x r h => by simp only [c.rt x r h.1, h.2, if_true]
 un := fun l x r h => by
  cases hd : c.dec l with
  | none => rw [hd] at h; cases h
  | some y =>
   rw [hd] at h
   obtain ⟨y, s⟩ := y
   simp only at h
   by_cases hp : p y = true
   case neg =>
    rw [if_neg hp] at h; cases h
   rw [if_pos hp] at h
   injection h with h
   injection h with h1 h2
   subst h1
   subst h2
   obtain ⟨a, b⟩ := c.un l y s hd
   exact ⟨⟨a, hp⟩, b⟩
def nat (m : Nat) : Cod Nat := num.only fun n => decide (n ≤ m)
def seq {α β : Type} (c : Cod α) (d : Cod β) : Cod (α × β) where
 enc := fun x => c.enc x.1 ++ d.enc x.2
 dec := fun l => match c.dec l with | some (x, r) => (match d.dec r with | some (y, s) => some ((x, y), s) | none => none) | none => none
 ok := fun x => c.ok x.1 ∧ d.ok x.2
 rt := fun x r h => by simp only [List.append_assoc, c.rt x.1 _ h.1, d.rt x.2 r h.2]
 un := fun l x r h => by
  cases hc : c.dec l with
  | none => rw [hc] at h; cases h
  | some y =>
   obtain ⟨y, s⟩ := y
   rw [hc] at h
   simp only at h
   cases hd : d.dec s with
   | none => rw [hd] at h; cases h
   | some z =>
    obtain ⟨z, t⟩ := z
    rw [hd] at h
    injection h with h
    injection h with h1 h2
    subst h1
    subst h2
    obtain ⟨a1, a2⟩ := c.un l y s hc
    obtain ⟨b1, b2⟩ := d.un s z t hd
    exact ⟨⟨a1, b1⟩, by rw [a2, b2, List.append_assoc]⟩
def iso {α β : Type} (c : Cod α) (f : α → β) (g : β → α) (hgf : ∀ a, c.ok a → g (f a) = a) : Cod β where
 enc := fun b => c.enc (g b)
 dec := fun l => match c.dec l with | some (x, r) => some (f x, r) | none => none
 ok := fun b => c.ok (g b) ∧ f (g b) = b
 rt := fun b r h => by simp only [c.rt _ r h.1, h.2]
 un := fun l x r h => by
  cases hc : c.dec l with
  | none => rw [hc] at h; cases h
  | some y =>
   obtain ⟨y, s⟩ := y
   rw [hc] at h
   injection h with h
   injection h with h1 h2
   subst h1
   subst h2
   obtain ⟨a1, a2⟩ := c.un l y s hc
   have e := hgf y a1
   exact ⟨⟨by rw [e]; exact a1, by rw [e]⟩, by rw [e]; exact a2⟩
def repDec {α : Type} (c : Cod α) : Nat → List UInt8 → Option (List α × List UInt8)
 | 0, l => some ([], l)
 | n + 1, l => match c.dec l with | some (x, r) => (match repDec c n r with | some (xs, s) => some (x :: xs, s) | none => none) | none => none
theorem rep_rt {α : Type} (c : Cod α) : ∀ (xs : List α) (r : List UInt8), (∀ x ∈ xs, c.ok x) → repDec c xs.length (xs.flatMap c.enc ++ r) = some (xs, r)
 | [], r, _ => rfl
 | x :: xs, r, h => by
  show (match c.dec ((c.enc x ++ xs.flatMap c.enc) ++ r) with | some (x, r) => (match repDec c xs.length r with | some (xs, s) => some (x :: xs, s) | none => none) | none => none) = _
  rw [List.append_assoc]
  simp only [c.rt x _ (h x List.mem_cons_self), rep_rt c xs r fun y hy => h y (List.mem_cons_of_mem _ hy)]
theorem rep_un {α : Type} (c : Cod α) : ∀ (n : Nat) (l : List UInt8) (xs : List α) (r : List UInt8), repDec c n l = some (xs, r) → xs.length = n ∧ (∀ x ∈ xs, c.ok x) ∧ l = xs.flatMap c.enc ++ r
 | 0, l, xs, r, h => by
  injection h with h
  injection h with h1 h2
  subst h1
  subst h2
  exact ⟨rfl, fun x hx => by (cases hx), rfl⟩
 | n + 1, l, xs, r, h => by
  rw [repDec] at h
  cases hc : c.dec l with
  | none => rw [hc] at h; cases h
  | some y =>
   obtain ⟨y, s⟩ := y
   rw [hc] at h
   simp only at h
   cases hd : repDec c n s with
   | none => rw [hd] at h; cases h
   | some z =>
    obtain ⟨z, t⟩ := z
    rw [hd] at h
    injection h with h
    injection h with h1 h2
    subst h1
    subst h2
    obtain ⟨a1, a2⟩ := c.un l y s hc
    obtain ⟨b1, b2, b3⟩ := rep_un c n s z t hd
    refine ⟨by rw [List.length_cons, b1], fun x hx => ?_, by rw [a2, b3, List.flatMap_cons, List.append_assoc]⟩
    rcases List.mem_cons.1 hx with rfl | hx
    ·exact a1
    ·exact b2 x hx
def list {α : Type} (m : Nat) (hm : m < 2 ^ 64) (c : Cod α) : Cod (List α) where
 enc := fun xs => putN xs.length ++ xs.flatMap c.enc
 dec := fun l => match (nat m).dec l with | some (n, r) => repDec c n r | none => none
 ok := fun xs => xs.length ≤ m ∧ ∀ x ∈ xs, c.ok x
 rt := fun xs r h => by
  have h1 := (nat m).rt xs.length (xs.flatMap c.enc ++ r) ⟨Nat.lt_of_le_of_lt h.1 hm, decide_eq_true h.1⟩
  have e : putN xs.length ++ xs.flatMap c.enc ++ r = (nat m).enc xs.length ++ (xs.flatMap c.enc ++ r) := by rw [List.append_assoc]; rfl
  rw [e]
  simp only [h1, rep_rt c xs r h.2]
 un := fun l xs r h => by
  cases hc : (nat m).dec l with
  | none => rw [hc] at h; cases h
  | some y =>
   obtain ⟨n, s⟩ := y
   rw [hc] at h
   simp only at h
   obtain ⟨a1, a2⟩ := (nat m).un l n s hc
   obtain ⟨b1, b2, b3⟩ := rep_un c n s xs r h
   exact ⟨⟨by rw [b1]; exact of_decide_eq_true a1.2, b2⟩, by rw [a2, b3, b1, List.append_assoc]; rfl⟩
def text (m : Nat) (hm : m < 2 ^ 64) : Cod (List UInt8) where
 enc := fun t => putN t.length ++ t
 dec := fun l => match (nat m).dec l with | some (n, r) => if n ≤ r.length then some (r.take n, r.drop n) else none | none => none
 ok := fun t => t.length ≤ m
 rt := fun t r h => by
  have h1 := (nat m).rt t.length (t ++ r) ⟨Nat.lt_of_le_of_lt h hm, decide_eq_true h⟩
  have e : putN t.length ++ t ++ r = (nat m).enc t.length ++ (t ++ r) := by rw [List.append_assoc]; rfl
  rw [e]
  simp only [h1]
  rw [if_pos (by rw [List.length_append]; omega), List.take_left, List.drop_left]
 un := fun l t r h => by
  cases hc : (nat m).dec l with
  | none => rw [hc] at h; cases h
  | some y =>
   obtain ⟨n, s⟩ := y
   rw [hc] at h
   simp only at h
   by_cases hn : n ≤ s.length
   case neg =>
    rw [if_neg hn] at h; cases h
   rw [if_pos hn] at h
   injection h with h
   injection h with h1 h2
   subst h1
   subst h2
   obtain ⟨a1, a2⟩ := (nat m).un l n s hc
   have hl : (s.take n).length = n := by rw [List.length_take]; omega
   refine ⟨by rw [hl]; exact of_decide_eq_true a1.2, ?_⟩
   rw [hl, List.append_assoc, List.take_append_drop]
   exact a2
def alt {α β : Type} (c : Cod α) (d : Cod β) : Cod (α ⊕ β) where
 enc := fun x => match x with | .inl a => putN 0 ++ c.enc a | .inr b => putN 1 ++ d.enc b
 dec := fun l => match (nat 1).dec l with
  | some (n, r) => if n = 0 then (match c.dec r with | some (x, s) => some (.inl x, s) | none => none) else (match d.dec r with | some (x, s) => some (.inr x, s) | none => none)
  | none => none
 ok := fun x => match x with | .inl a => c.ok a | .inr b => d.ok b
 rt := fun x r h => by
  cases x with
  | inl a =>
   have h1 := (nat 1).rt 0 (c.enc a ++ r) ⟨show 0 < 2 ^ 64 from Nat.pow_pos (by decide), rfl⟩
   have h2 : (nat 1).dec (putN 0 ++ c.enc a ++ r) = some (0, c.enc a ++ r) := by rw [List.append_assoc]; exact h1
   show (match (nat 1).dec (putN 0 ++ c.enc a ++ r) with | some (n, r) => if n = 0 then (match c.dec r with | some (x, s) => some (Sum.inl x, s) | none => none) else (match d.dec r with | some (x, s) => some (Sum.inr x, s) | none => none) | none => none) = _
   rw [h2]
   simp only [if_true, c.rt a r h]
  | inr b =>
   have h1 := (nat 1).rt 1 (d.enc b ++ r) ⟨show 1 < 2 ^ 64 from Nat.one_lt_two_pow (by decide), rfl⟩
   have h2 : (nat 1).dec (putN 1 ++ d.enc b ++ r) = some (1, d.enc b ++ r) := by rw [List.append_assoc]; exact h1
   show (match (nat 1).dec (putN 1 ++ d.enc b ++ r) with | some (n, r) => if n = 0 then (match c.dec r with | some (x, s) => some (Sum.inl x, s) | none => none) else (match d.dec r with | some (x, s) => some (Sum.inr x, s) | none => none) | none => none) = _
   rw [h2]
   simp only [d.rt b r h]
   rfl
 un := fun l x r h => by
  cases hc : (nat 1).dec l with
  | none => rw [hc] at h; cases h
  | some y =>
   obtain ⟨n, s⟩ := y
   rw [hc] at h
   simp only at h
   obtain ⟨a1, a2⟩ := (nat 1).un l n s hc
   have hn : n ≤ 1 := of_decide_eq_true a1.2
   by_cases h0 : n = 0
   ·rw [if_pos h0] at h
    subst h0
    cases hd : c.dec s with
    | none => rw [hd] at h; cases h
    | some z =>
     obtain ⟨z, t⟩ := z
     rw [hd] at h
     injection h with h
     injection h with h1 h2
     subst h1
     subst h2
     obtain ⟨b1, b2⟩ := c.un s z t hd
     exact ⟨b1, by rw [a2, b2]; exact (List.append_assoc _ _ _).symm⟩
   rw [if_neg h0] at h
   obtain rfl : n = 1 := by omega
   cases hd : d.dec s with
   | none => rw [hd] at h; cases h
   | some z =>
    obtain ⟨z, t⟩ := z
    rw [hd] at h
    injection h with h
    injection h with h1 h2
    subst h1
    subst h2
    obtain ⟨b1, b2⟩ := d.un s z t hd
    exact ⟨b1, by rw [a2, b2]; exact (List.append_assoc _ _ _).symm⟩
def zig (z : Int) : Nat := if 0 ≤ z then (2 * z).toNat else (-2 * z - 1).toNat
def zag (n : Nat) : Int := if n % 2 = 0 then ((n / 2 : Nat) : Int) else -((n / 2 : Nat) : Int) - 1
theorem zig_zag (n : Nat) : zig (zag n) = n := by
 unfold zig zag
 by_cases h : n % 2 = 0
 ·rw [if_pos h, if_pos (by omega)]; omega
 rw [if_neg h, if_neg (by omega)]; omega
theorem zag_zig (z : Int) : zag (zig z) = z := by
 unfold zig zag
 by_cases h : 0 ≤ z
 ·rw [if_pos h, if_pos (by omega)]; omega
 rw [if_neg h, if_neg (by omega)]; omega
def int : Cod Int := num.iso zag zig fun a _ => zig_zag a
end Cod
def wrongP : List PanicEntry := [{ v := .iface 59 (.agg #[]), recovered := false }]
theorem need_any (b : Bool) (w : World) : Calls Try.prog 25 #[.bool b] w fun e w' => w' = w ∧ e = (if b = true then .returned (.tuple #[]) else .panicked wrongP) := by
 cases b with
 | true =>
  go_enter Try.func25, Try.ntmps25
  go_wp2_with fail
  exact bodyPost_end (results_none rfl _ _ _) rfl ⟨rfl, rfl⟩
 | false =>
  go_enter Try.func25, Try.ntmps25
  go_wp2_with fail
  exact ⟨rfl, rfl, rfl⟩
theorem andNot_all : ∀ b : Fin 256, bits .andNot .u8 (b.val : Int) 128 = ((b.val % 128 : Nat) : Int) := by decide +kernel
theorem wrap_u64 (n : Nat) : IntKind.u64.wrap (n : Int) = ((n % 2 ^ 64 : Nat) : Int) := by
 unfold IntKind.wrap
 simp [IntKind.signed, IntKind.bits]
theorem step_bits (b : UInt8) (acc i : Nat) (ha : acc < 2 ^ 64) : bits .or .u64 (acc : Int) (IntKind.u64.wrap (IntKind.u64.wrap (bits .andNot .u8 (b.toNat : Int) 128) * 2 ^ (7 * i))) = ((acc ||| ((b.toNat % 128) <<< (7 * i)) % 2 ^ 64 : Nat) : Int) := by
 have h1 := andNot_all ⟨b.toNat, b.toNat_lt⟩
 simp only at h1
 rw [h1, wrap_u64, Nat.mod_eq_of_lt (show b.toNat % 128 < 2 ^ 64 by have : b.toNat % 128 < 128 := Nat.mod_lt _ (by decide); omega)]
 rw [show ((b.toNat % 128 : Nat) : Int) * 2 ^ (7 * i) = ((b.toNat % 128 * 2 ^ (7 * i) : Nat) : Int) by push_cast; rfl, wrap_u64, Nat.shiftLeft_eq]
 exact bits_or_u64_nat acc _ (by omega) (by have := Nat.mod_lt (b.toNat % 128 * 2 ^ (7 * i)) (show 0 < 2 ^ 64 from Nat.pow_pos (by decide)); omega)
theorem small_shift {c i : Nat} (hc : c < 128) (hi : i < 9) : c * 2 ^ (7 * i) < 2 ^ 64 := by
 have h1 : 2 ^ (7 * i) ≤ 2 ^ 56 := Nat.pow_le_pow_right (by decide) (by omega)
 have h2 : c * 2 ^ (7 * i) ≤ 127 * 2 ^ 56 := Nat.mul_le_mul (by omega) h1
 exact Nat.lt_of_le_of_lt h2 (by decide)
theorem or_place {acc c i : Nat} (ha : acc < 2 ^ (7 * i)) (hc : c * 2 ^ (7 * i) < 2 ^ 64) : (acc ||| (c <<< (7 * i)) % 2 ^ 64) = acc + c * 2 ^ (7 * i) := by
 rw [Nat.shiftLeft_eq, Nat.mod_eq_of_lt hc, Nat.or_comm, Nat.mul_comm c, ← Nat.two_pow_add_eq_or_of_lt ha, Nat.add_comm]
def NumR (p : Nat) (l : List UInt8) (w : World) (e : Ending) (w' : World) : Prop := match number l with | some (n, r) => ∃ s' : ByteArray, s'.data.toList = r ∧ e = .returned (.int .u64 n) ∧ w' = w.setCell ⟨p, 0, none⟩ (.string s') | none => e = .panicked wrongP ∧ w' = w
theorem NumR.no {p : Nat} {l : List UInt8} {w : World} (h : number l = none) : NumR p l w (.panicked wrongP) w := by unfold NumR; rw [h]; exact ⟨rfl, rfl⟩
theorem NumR.yes {p : Nat} {l : List UInt8} {w : World} {n : Nat} {r : List UInt8} {s' : ByteArray} (h : number l = some (n, r)) (hs : s'.data.toList = r) : NumR p l w (.returned (.int .u64 n)) (w.setCell ⟨p, 0, none⟩ (.string s')) := by unfold NumR; rw [h]; exact ⟨s', hs, rfl, rfl⟩
theorem extract_drop {s : ByteArray} {l : List UInt8} (hs : s.data.toList = l) (k : Nat) : (s.extract k l.length).data.toList = l.drop k := by
 subst hs
 simp
 rw [List.take_of_length_le]
 rw [List.length_drop, Array.length_toList]
 exact Nat.le_refl _
set_option maxHeartbeats 2000000 in
theorem number_any (p : Nat) (s : ByteArray) (l : List UInt8) (w : World) (hc : w.heap[p]? = some (.cells #[.string s] 63 (0, 0))) (hs : s.data.toList = l) (hl : l.length ≤ 10000000) :
  Calls Try.prog 69 #[.pointer (some ⟨p, 0, none⟩)] w fun e w' => NumR p l w e w' := by
 have t0 : w.cell? ⟨p, 0, none⟩ = some (.string s) := (q3q hc 0).trans rfl
 have f0 : w.frozen? ⟨p, 0, none⟩ = false := q1q hc 0
 have hsl : s.size = l.length := by rw [← hs, Array.length_toList]; rfl
 have HS := Aq.mk hs
 clear hc hs
 go_enter Try.func69, Try.ntmps69
 go_wp2_with fail
 go_loopw [3, 6] (fun v3 v6 wr => w = wr ∧ ∃ i acc : Nat, v6 = .int .i64 (i : Int) ∧ v3 = .int .u64 (acc : Int) ∧ i ≤ 9 ∧ Aq (numGo (9 - i) i acc (l.drop i) = number l) ∧ Aq (acc < 2 ^ (7 * i))) (fun _ v6 _ => 10 - (intOf v6).toNat)
 case atStart => exact ⟨rfl, 0, 0, rfl, rfl, by omega, Aq.mk rfl, Aq.mk (by decide)⟩
 case round =>
  obtain ⟨rfl, i, acc, rfl, rfl, hi, HN, HA⟩ := hrel
  have h10 : (i : Int) < 10 := by omega
  by_cases hlt : i < l.length
  case neg =>
   have hlt' : ¬ (i : Int) < (s.size : Int) := by omega
   have hz : number l = none := by rw [← HN.out, List.drop_eq_nil_of_le (by omega)]; cases (9 - i) <;> rfl
   go_wp2_with fail
   refine (need_any false w).mono ?_
   rintro e w2 ⟨rfl, rfl⟩
   exact ⟨rfl, NumR.no hz⟩
  have hlt' : (i : Int) < (s.size : Int) := by omega
  have hlt2 : i < s.size := by omega
  obtain ⟨b, hb⟩ : ∃ b, s[i]'hlt2 = b := ⟨_, rfl⟩
  go_wp2_with fail
  refine (need_any true w).mono ?_
  rintro e w2 ⟨rfl, rfl⟩
  go_upto_region 7 with (fail)
  go_cut [3] from 60 (fun v3 wx => v3 = .int .u64 ((acc ||| ((b.toNat % 128) <<< (7 * i)) % 2 ^ 64 : Nat) : Int) ∧ wx = w2)
  case first =>
   go_wp2_with fail
   go_meet
   case rel => exact ⟨congrArg _ (step_bits b acc i (Nat.lt_of_lt_of_le HA.out (Nat.pow_le_pow_right (by decide) (by omega)))), rfl⟩
  case rest =>
   obtain ⟨rfl, rfl⟩ := hcut
   have HD := Aq.mk (show l.drop i = b :: l.drop (i + 1) by
    rw [List.drop_eq_getElem_cons hlt]
    congr 1
    rw [← hb]
    have hs := HS.out
    subst hs
    rfl)
   obtain ⟨V, hV⟩ : ∃ V, V = acc ||| ((b.toNat % 128) <<< (7 * i)) % 2 ^ 64 := ⟨_, rfl⟩
   rw [← hV]
   have HV := Aq.mk hV
   clear hV hb
   have hb2 : b.toNat < 256 := b.toNat_lt
   by_cases h9 : i = 9
   ·have h9i : (i : Int) = 9 := by omega
    rw [h9i]
    have H9 := Aq.mk h9
    clear h9 hi h10 h9i hlt' hlt hlt2
    obtain ⟨c, hc⟩ : ∃ c : Int, (b.toNat : Int) = c := ⟨_, rfl⟩
    rw [hc]
    have HC := Aq.mk hc
    clear hc hb2
    have HNN : Aq (number l = if 0 < b.toNat ∧ b.toNat ≤ 1 then some (acc + b.toNat * 2 ^ (7 * i), l.drop (i + 1)) else none) := Aq.mk (by rw [← HN.out, HD.out, H9.out]; rfl)
    by_cases hb1 : c ≤ 1
    case neg =>
     have hz : number l = none := by rw [HNN.out, if_neg (by have := HC.out; omega)]
     go_wp2_with fail
     refine (need_any false _).mono ?_
     rintro e w3 ⟨rfl, rfl⟩
     exact ⟨rfl, NumR.no hz⟩
    by_cases h0 : 0 < c
    case neg =>
     have hz : number l = none := by rw [HNN.out, if_neg (by have := HC.out; omega)]
     go_wp2_with fail
     refine (need_any true _).mono ?_
     rintro e w3 ⟨rfl, rfl⟩
     go_wp2_with fail
     refine (need_any _ _).mono ?_
     rintro e w4 ⟨rfl, he⟩
     rw [decide_eq_false (by omega), if_neg (by decide)] at he
     subst he
     exact ⟨rfl, NumR.no hz⟩
    go_wp2_with fail
    refine (need_any true _).mono ?_
    rintro e w3 ⟨rfl, rfl⟩
    go_wp2_with fail
    refine (need_any true _).mono ?_
    rintro e w4 ⟨rfl, rfl⟩
    have hnine : i = 9 := H9.out
    have hlt9 : 9 < l.length := by have := congrArg List.length HD.out; simp at this; omega
    have hs9 : (9 : Int) + 1 ≤ (s.size : Int) := by omega
    go_wp2_with fail
    go_ret
    have hc1 : b.toNat = 1 := by have := HC.out; omega
    have hVV : V = acc + b.toNat * 2 ^ (7 * i) := by rw [HV.out, show b.toNat % 128 = b.toNat by omega]; exact or_place HA.out (by rw [hc1, hnine]; decide)
    have hnum : number l = some (V, l.drop 10) := by rw [HNN.out, if_pos ⟨by omega, by omega⟩, hVV, hnine]
    exact NumR.yes hnum (extract_drop HS.out 10)
   have h9' : ¬ (i : Int) = 9 := by omega
   obtain ⟨f, hf⟩ : ∃ f, 9 - i = f + 1 := ⟨8 - i, by omega⟩
   have HNN : Aq (number l = if b.toNat < 128 then (if 0 < b.toNat ∨ i = 0 then some (acc + b.toNat * 2 ^ (7 * i), l.drop (i + 1)) else none) else numGo f (i + 1) (acc + (b.toNat - 128) * 2 ^ (7 * i)) (l.drop (i + 1))) := Aq.mk (by rw [← HN.out, HD.out, hf]; rfl)
   have HF := Aq.mk hf
   clear hf
   obtain ⟨c, hc⟩ : ∃ c : Int, (b.toNat : Int) = c := ⟨_, rfl⟩
   rw [hc]
   have HC := Aq.mk hc
   clear hc hb2
   by_cases hb1 : c < 128
   case neg =>
    go_wp2_with fail
    go_roundw
    case rel =>
     refine ⟨trivial, i + 1, V, by simp, rfl, by omega, Aq.mk ?_, Aq.mk ?_⟩
     ·rw [HNN.out, if_neg (by have := HC.out; omega), show 9 - (i + 1) = f by have := HF.out; omega, HV.out, or_place HA.out (small_shift (Nat.mod_lt _ (by decide)) (by omega)), show b.toNat % 128 = b.toNat - 128 by have := HC.out; have := b.toNat_lt; omega]
     ·rw [HV.out, or_place HA.out (small_shift (Nat.mod_lt _ (by decide)) (by omega)), pow7]
      have h1 := HA.out
      have h2 : b.toNat % 128 ≤ 127 := by omega
      have h3 : b.toNat % 128 * 2 ^ (7 * i) ≤ 127 * 2 ^ (7 * i) := Nat.mul_le_mul_right _ h2
      omega
    case measure => simp [intOf]; omega
   by_cases h0 : 0 < c
   ·have hnum : number l = some (V, l.drop (i + 1)) := by
     rw [HNN.out, if_pos (by have := HC.out; omega), if_pos (.inl (by have := HC.out; omega)), HV.out, show b.toNat % 128 = b.toNat by have := HC.out; omega]
     rw [or_place HA.out (small_shift (by have := HC.out; omega) (by omega))]
    go_wp2_with fail
    refine (need_any true _).mono ?_
    rintro e w4 ⟨rfl, rfl⟩
    have hs9 : (i : Int) + 1 ≤ (s.size : Int) := by omega
    go_wp2_with fail
    go_ret
    exact NumR.yes hnum (extract_drop HS.out (i + 1))
   by_cases hi0 : (i : Int) = 0
   case neg =>
    have hz : number l = none := by rw [HNN.out, if_pos (by have := HC.out; omega), if_neg (by have := HC.out; omega)]
    go_wp2_with fail
    refine (need_any _ _).mono ?_
    rintro e w4 ⟨rfl, he⟩
    rw [show ((i : Int) == 0) = false by simpa using hi0, if_neg (by decide)] at he
    subst he
    exact ⟨rfl, NumR.no hz⟩
   have hnum : number l = some (V, l.drop (i + 1)) := by
    rw [HNN.out, if_pos (by have := HC.out; omega), if_pos (.inr (by omega)), HV.out, show b.toNat % 128 = b.toNat by have := HC.out; omega]
    rw [or_place HA.out (small_shift (by have := HC.out; omega) (by omega))]
   go_wp2_with fail
   refine (need_any true _).mono ?_
   rintro e w4 ⟨rfl, rfl⟩
   have hs9 : (i : Int) + 1 ≤ (s.size : Int) := by omega
   go_wp2_with fail
   go_ret
   exact NumR.yes (r := l.drop 1) (by rw [hnum, show i + 1 = 1 by omega]) (extract_drop HS.out 1)
def NatR (base p : Nat) (l : List UInt8) (m : Nat) (w : World) (e : Ending) (w' : World) : Prop := match (Cod.nat m).dec l with
 | some (n, r) => ∃ s' : ByteArray, s'.data.toList = r ∧ e = .returned (.int .i64 n) ∧ w' = w.setCell ⟨p, 0, none⟩ (.string s')
 | none => e = .panicked wrongP ∧ Below base w w' ∧ KeepBut w w' p none
theorem nat_dec (m : Nat) (l : List UInt8) : (Cod.nat m).dec l = (match number l with | some (x, r) => if decide (x ≤ m) = true then some (x, r) else none | none => none) := by
 show (Cod.only Cod.num _).dec l = _
 unfold Cod.only Cod.num
 simp only
 cases number l <;> rfl
theorem nat_none {l : List UInt8} (m : Nat) (h : number l = none) : (Cod.nat m).dec l = none := by rw [nat_dec, h]
theorem nat_some {l r : List UInt8} {n : Nat} (m : Nat) (h : number l = some (n, r)) : (Cod.nat m).dec l = if n ≤ m then some (n, r) else none := by
 rw [nat_dec, h]
 by_cases hm : n ≤ m
 ·rw [if_pos hm]; simp [hm]
 rw [if_neg hm]; simp [hm]
set_option maxHeartbeats 1000000 in
theorem natural_any (base p : Nat) (s : ByteArray) (l : List UInt8) (m : Nat) (w : World) (hc : w.heap[p]? = some (.cells #[.string s] 63 (0, 0))) (hs : s.data.toList = l) (hl : l.length ≤ 10000000) (hp : base ≤ p) (hm : m ≤ 10000000) :
  Calls Try.prog 43 #[.pointer (some ⟨p, 0, none⟩), .int .i64 m] w fun e w' => NatR base p l m w e w' := by
 have HC := Aq.mk hc
 have HS := Aq.mk hs
 clear hc hs
 go_enter Try.func43, Try.ntmps43
 go_wp2_with fail
 refine (number_any p s l w HC.out HS.out hl).mono ?_
 intro e w1 h1
 unfold NumR at h1
 cases hn : number l with
 | none =>
  rw [hn] at h1
  obtain ⟨rfl, rfl⟩ := h1
  exact ⟨rfl, by unfold NatR; rw [nat_none m hn]; exact ⟨rfl, Below.refl _ _, KeepBut.refl _ _ _⟩⟩
 | some x =>
  obtain ⟨n, r⟩ := x
  rw [hn] at h1
  obtain ⟨s', hs', rfl, rfl⟩ := h1
  have HN := Aq.mk (nat_some m hn)
  have hn64 := (Cod.num.un l n r hn).1
  have HN64 := Aq.mk (show n < 2 ^ 64 from hn64)
  have HB := Aq.mk ((Below.refl base w).setCell (p := ⟨p, 0, none⟩) hp (.string s'))
  have HK := Aq.mk ((KeepBut.refl w p none).set_ 0 (.string s'))
  clear hn hn64
  obtain ⟨w2, hw2⟩ : ∃ x, x = w.setCell ⟨p, 0, none⟩ (.string s') := ⟨_, rfl⟩
  rw [← hw2] at HB HK ⊢
  have HW := Aq.mk hw2
  clear hw2
  go_wp2_with fail
  refine (need_any _ _).mono ?_
  rintro e w3 ⟨rfl, he⟩
  by_cases hnm : n ≤ m
  case neg =>
   rw [decide_eq_false hnm, if_neg (by decide)] at he
   subst he
   have hd : (Cod.nat m).dec l = none := by rw [HN.out, if_neg hnm]
   exact ⟨rfl, by unfold NatR; rw [hd]; exact ⟨rfl, HB.out, HK.out⟩⟩
  rw [decide_eq_true hnm, if_pos rfl] at he
  subst he
  have hd : (Cod.nat m).dec l = some (n, r) := by rw [HN.out, if_pos hnm]
  have hn7 : n ≤ 10000000 := by omega
  go_wp2_with fail
  go_ret
  unfold NatR
  rw [hd]
  exact ⟨s', hs', rfl, HW.out⟩
end Go.Proofs.Ytkkgbbfojmnopaa.G
end
