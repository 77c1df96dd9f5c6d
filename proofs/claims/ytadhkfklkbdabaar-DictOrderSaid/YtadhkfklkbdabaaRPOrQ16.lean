import Derived.Deep.RegionLaw
import Derived.Deep.Cut
import Derived.WalkSpells
import Derived.Maps.OwnOps
import Derived.Maps.OwnSet
import Derived.Maps.Views
import Derived.Maps.Own
import Derived.DeepKeys5
import Derived.Outline
import Derived.Deep.AppendLies
import Derived.Laws.CopyRow
import Derived.Laws.CopyOwn
import Derived.StillTailTactics
import Derived.Test.YtadhkfklkbdabaaRPOrQ15
import Derived.Test.YtadhkfklkbdabaaRPOrGxF4
set_option linter.unusedVariables false
set_option linter.unusedSimpArgs false
section
namespace Go.Proofs.YtadhkfklkbdabaaR.G
open Go.RowKit Go.Proofs.YtadhkfklkbdabaaRW.PrintWords Go.Proofs.YtadhkfklkbdabaaRW.PrintLast Go.Proofs.YtadhkfklkbdabaaRW.PrintMore
set_option linter.unusedVariables false
set_option linter.unusedSimpArgs false
theorem may_str {x : Int} (h0 : 1 ≤ x) (h1 : x ≤ 20) : H.mayB 5 x = true := by
 unfold H.mayB H.withinB
 simp
 omega
theorem key_int (x : Int) : keyB ⟨3, x⟩ = true := rfl
theorem ref_str {x : Int} (h0 : 1 ≤ x) (h1 : x ≤ 20) : refB ⟨5, x⟩ = true := by
 unfold refB
 rw [show H.mayB (⟨5, x⟩ : S24).f0 (⟨5, x⟩ : S24).f1 = true from may_str h0 h1]; rfl
theorem in_str {x : Int} (h0 : 1 ≤ x) (h1 : x ≤ 20) : inV ⟨5, x⟩ = true := by
 unfold inV inR
 rw [show (Lit.int .i64 (⟨5, x⟩ : S24).f0).wf = true by (show (Lit.int .i64 5).wf = true; decide), show (Lit.int .i64 (⟨5, x⟩ : S24).f1).wf = true from inR_small (by show 0 ≤ x; omega) (by show x ≤ 1000000; omega)]; rfl
structure OI (o : List Int) (i : Nat) (a : List S24) (P : List (S24 × S24)) : Prop where
 tok : TOk a P
 av : AllV a P
 len : a.length + 2 * P.length ≤ 2 * i
 sm : ∀ k, sem a P k = if k.f0 = 3 ∧ k.f1 ∈ o.take i then ⟨5, k.f1⟩ else ⟨1, 0⟩
structure RI (o : List Int) (i : Nat) (a : List S24) : Prop where
 tok : TOk a []
 av : AllV a []
 len : a.length ≤ 40
 sm : ∀ k, sem a [] k = if k.f0 = 3 ∧ k.f1 ∈ o.drop i then ⟨5, k.f1⟩ else ⟨1, 0⟩
theorem len_f {a : List S24} {P : List (S24 × S24)} (t : TOk a P) (av : AllV a P) (hl : a.length + 2 * P.length ≤ 1000) : dict_Len.f (tabS ⟨1, 0⟩ a P) = some (a.length : Int) := by
 unfold dict_Len.f lenS
 rw [if_pos (pre_tab av (by omega) rfl), okS_tab t, if_pos rfl, arrS_tab]
theorem order_l4 {m : Nat} {o : List Int} {a : List S24} {i : Nat} (hm : m ≤ 20) (ho : Ord m o) (t : TOk a []) (av : AllV a []) (hl : a.length ≤ 40) (hi : i < m) (hnext : Ev (fun f => tallowlaw09_DictOrder.l3 f (m : Int) o (tabS ⟨1, 0⟩ a []) ((i + 1 : Nat) : Int) 1 0) true) : ∀ (d j : Nat) (acc : Int), m = j + d → (a.length : Int) = mxL acc (o.drop j) →
  Ev (fun f => tallowlaw09_DictOrder.l4 f (m : Int) o (tabS ⟨1, 0⟩ a []) (i : Int) acc (j : Int) 1 0) true
 | 0, j, acc, h, hM => by
  have hol := ho.len
  rw [List.drop_eq_nil_of_le (by omega)] at hM
  have hacc : acc = (a.length : Int) := hM.symm
  refine Ev.step (fun f => ?_) hnext
  rw [tallowlaw09_DictOrder.l4, if_neg (by omega), len_f t av (by simp; omega), Option.bind_some, if_pos hacc.symm, hacc, wrapN (n := 2 + (a.length : Int)) (by omega) (by omega), if_pos (by rw [len_tab]; simp; omega), wrapN (by omega) (by omega)]; rfl
 | d + 1, j, acc, h, hM => by
  have hol := ho.len
  rw [rdI (show j < o.length by omega)] at hM
  refine Ev.step (fun f => ?_) (order_l4 hm ho t av hl hi hnext d (j + 1) (mx acc (rd o (j : Int))) (by omega) hM)
  rw [tallowlaw09_DictOrder.l4, if_pos (by omega), if_pos (by omega), if_pos (by omega), wrapN (by omega) (by omega)]; rfl
theorem order_l3 {m : Nat} {o : List Int} (hm : m ≤ 20) (ho : Ord m o) : ∀ (d i : Nat) (a : List S24), m = i + d → RI o i a → Ev (fun f => tallowlaw09_DictOrder.l3 f (m : Int) o (tabS ⟨1, 0⟩ a []) (i : Int) 1 0) true
 | 0, i, a, h, r => by
  have hol := ho.len
  have hM := row_max (R := []) r.tok (fun k => by
   rw [r.sm k, List.drop_eq_nil_of_le (by omega), if_neg (by simp)]
   simp)
  have ha : a = [] := List.eq_nil_of_length_eq_zero (by have : mxL 0 [] = 0 := rfl; omega)
  subst ha
  refine Ev.step (g := fun f => (tallowlaw09_is.f f (tabS ⟨1, 0⟩ [] []) (tabS ⟨1, 0⟩ [] [])).bind fun t432 => (if t432 = true then ((tallowlaw09_works.f f).bind fun t433 => (some t433)) else (some false))) (fun f => ?_) (Ev.bind (eis _ (by decide)) (Ev.pos rfl (Ev.bind eworks (Ev.pure _))))
  rw [tallowlaw09_DictOrder.l3, if_neg (by omega)]; rfl
 | d + 1, i, a, h, r => by
  have hol := ho.len
  have hi : i < o.length := by omega
  obtain ⟨x, hx⟩ : ∃ x, x = rd o (i : Int) := ⟨_, rfl⟩
  have hap := (ho.apart hi).2
  have hdr := rdI hi
  obtain ⟨x1, x2⟩ := (ho.mem (rd o (i : Int))).1 (rdI_mem hi)
  rw [← hx] at hap hdr x1 x2
  have hx20 : x ≤ 20 := by omega
  have hsx : sem a [] ⟨3, x⟩ = ⟨5, x⟩ := by rw [r.sm, hdr, if_pos ⟨rfl, List.mem_cons_self⟩]
  have hp : placedB ⟨3, x⟩ a.length = true := by
   cases hp : placedB ⟨3, x⟩ a.length with
   | true => rfl
   | false =>
    rw [sem_not (by rw [hp]; decide)] at hsx
    have : (1 : Int) = 5 := congrArg S24.f0 hsx
    omega
  have hput := put_placed (v := ⟨1, 0⟩) r.tok rfl hp
  have hch : changeS a (flatP []) ⟨3, x⟩ ⟨1, 0⟩ = (layS a ((⟨3, x⟩ : S24).f1 - 1).toNat ⟨1, 0⟩, flatP [], refsL [rd_T24 a ((⟨3, x⟩ : S24).f1 - 1)]) := by unfold changeS; rw [if_pos hp]
  have hg := hput.gone rfl
  rw [hsx] at hg
  have hg2 : refsL [(⟨5, x⟩ : S24)] = [⟨5, x⟩] := by rw [refsL_snoc, ref_str x1 hx20, if_pos rfl]; rfl
  rw [hg2] at hg
  have hf : dict_Put.f (tabS ⟨1, 0⟩ a []) 3 x 1 0 = some (tabS ⟨1, 0⟩ (layS a ((⟨3, x⟩ : S24).f1 - 1).toNat ⟨1, 0⟩) [], [⟨5, x⟩], 0) := by
   unfold dict_Put.f
   have hlr := r.len
   rw [if_pos (pre_tab r.av (by simp; omega) rfl), putS_tab (P' := []) r.tok (by rfl) (key_int x) (by rw [hch]), hch]
   show some (_, refsL [rd_T24 a ((⟨3, x⟩ : S24).f1 - 1)], _) = _
   rw [hg]
  have hll := layS_len a ((⟨3, x⟩ : S24).f1 - 1).toNat ⟨1, 0⟩
  obtain ⟨a', ha'⟩ : ∃ a', a' = layS a ((⟨3, x⟩ : S24).f1 - 1).toNat ⟨1, 0⟩ := ⟨_, rfl⟩
  rw [← ha'] at hput hf hll
  have hlr := r.len
  have r' : RI o (i + 1) a' := by
   refine ⟨hput.tok, put_in r.av (inV_small (by omega) (by omega)) (by decide) hput (by omega) (by omega), by omega, fun k => ?_⟩
   rw [hput.sm k, r.sm k, hdr]
   by_cases hs : sameV k ⟨3, x⟩ = true
   ·rw [if_pos hs, sameV_iff.1 hs, if_neg (fun z => hap z.2)]
   ·rw [if_neg hs]
    by_cases h3 : k.f0 = 3 ∧ k.f1 ∈ o.drop (i + 1)
    ·rw [if_pos h3, if_pos ⟨h3.1, List.mem_cons_of_mem _ h3.2⟩]
    ·rw [if_neg h3, if_neg]
     rintro ⟨z1, z2⟩
     rcases List.mem_cons.1 z2 with z2 | z2
     ·exact hs (sameV_iff.2 (s24_eq z1 z2))
     ·exact h3 ⟨z1, z2⟩
  have hM := row_max (R := o.drop (i + 1)) r'.tok (fun k => by
   rw [r'.sm k]
   by_cases h3 : k.f0 = 3 ∧ k.f1 ∈ o.drop (i + 1)
   ·rw [if_pos h3]
    constructor
    ·intro _; exact h3
    ·intro _ e; have : (5 : Int) = 1 := congrArg S24.f0 e; omega
   ·rw [if_neg h3]
    constructor
    ·intro e; exact (e rfl).elim
    ·intro e; exact (h3 e).elim)
  have h4 := order_l4 hm ho r'.tok r'.av r'.len (show i < m by omega) (order_l3 hm ho d (i + 1) a' (by omega) r') d (i + 1) 0 (by omega) hM
  refine Ev.step (g := fun f => (tallowlaw09_is.f f [⟨5, x⟩] [⟨5, x⟩]).bind fun t450 => tallowlaw09_DictOrder.j6 f (m : Int) o (i : Int) (tabS ⟨1, 0⟩ a' []) (!t450) 1 0) (fun f => ?_) (Ev.bind (eis _ (by simp)) (Ev.step (fun f => ?_) h4))
  ·rw [tallowlaw09_DictOrder.l3, if_pos (by omega), if_pos (by omega), if_pos (by omega), ← hx, show tallowlaw09_in.f x = some (3, x) from rfl, Option.bind_some, hf, Option.bind_some, if_pos rfl, show tallowlaw09_str.f x = some (5, x) from rfl, Option.bind_some]
  ·rw [tallowlaw09_DictOrder.j6, if_neg (by decide), wrapN (by omega) (by omega)]; rfl
theorem order_l2 {m : Nat} {o : List Int} (hm : m ≤ 20) (ho : Ord m o) : ∀ (d i : Nat) (a : List S24) (P : List (S24 × S24)), m = i + d → OI o i a P → Ev (fun f => tallowlaw09_DictOrder.l2 f (m : Int) o (tabS ⟨1, 0⟩ a P) (i : Int)) true
 | 0, i, a, P, h, r => by
  have hol := ho.len
  have hsm : ∀ k, sem a P k = if k.f0 = 3 ∧ k.f1 ∈ o then ⟨5, k.f1⟩ else ⟨1, 0⟩ := fun k => by
   have := r.sm k
   rw [show i = o.length by omega, List.take_length] at this
   exact this
  obtain ⟨e1, e2⟩ := full_row (m := m) r.tok (fun k hk => by
   rw [hsm k] at hk
   by_cases h3 : k.f0 = 3 ∧ k.f1 ∈ o
   ·exact ⟨h3.1, (ho.mem _).1 h3.2⟩
   ·rw [if_neg h3] at hk; exact (hk rfl).elim) (fun j j1 j2 e => by
   rw [hsm, if_pos ⟨rfl, (ho.mem _).2 ⟨j1, j2⟩⟩] at e
   have : (5 : Int) = 1 := congrArg S24.f0 e
   omega)
  subst e2
  have hl3 := order_l3 hm ho m 0 a (by omega) ⟨r.tok, r.av, by omega, fun k => by rw [hsm k]; rfl⟩
  refine Ev.step (g := fun f => tallowlaw09_DictOrder.j4 f (m : Int) o (tabS ⟨1, 0⟩ a []) false) (fun f => ?_) (Ev.step (fun f => ?_) hl3)
  ·rw [tallowlaw09_DictOrder.l2, if_neg (by omega), len_f r.tok r.av (by simp; omega), Option.bind_some, if_pos (by omega), wrapN (by omega) (by omega)]
   congr 1
   rw [len_tab]
   simp
   omega
  ·rw [tallowlaw09_DictOrder.j4, if_neg (by decide)]; rfl
 | d + 1, i, a, P, h, r => by
  have hol := ho.len
  have hi : i < o.length := by omega
  obtain ⟨x, hx⟩ : ∃ x, x = rd o (i : Int) := ⟨_, rfl⟩
  have hap := (ho.apart hi).1
  have htk := rdI_take hi
  obtain ⟨x1, x2⟩ := (ho.mem (rd o (i : Int))).1 (rdI_mem hi)
  rw [← hx] at hap htk x1 x2
  have hx20 : x ≤ 20 := by omega
  have hlr := r.len
  rcases put_f r.tok r.av (by omega) ⟨⟨3, x⟩, ⟨5, x⟩⟩ with ⟨hg, _⟩ | ⟨hg, a', P', g, hf, hp, hlen, _⟩
  ·exfalso
   have : good46 ⟨⟨3, x⟩, ⟨5, x⟩⟩ = true := by
    unfold good46 may46
    rw [show H.mayB (⟨⟨3, x⟩, ⟨5, x⟩⟩ : S46).f0.f0 (⟨⟨3, x⟩, ⟨5, x⟩⟩ : S46).f0.f1 = true from rfl, show H.mayB (⟨⟨3, x⟩, ⟨5, x⟩⟩ : S46).f1.f0 (⟨⟨3, x⟩, ⟨5, x⟩⟩ : S46).f1.f1 = true from may_str x1 hx20]; rfl
   rw [this] at hg; cases hg
  ·have hsx : sem a P ⟨3, x⟩ = ⟨1, 0⟩ := by rw [r.sm, if_neg (fun z => hap z.2)]
   have hgn := hp.gone rfl
   rw [show (⟨⟨3, x⟩, ⟨5, x⟩⟩ : S46).f0 = ⟨3, x⟩ from rfl, hsx, refs_null] at hgn
   subst hgn
   have r' : OI o (i + 1) a' P' := by
    refine ⟨hp.tok, put_in r.av (inV_small (by show 0 ≤ x; omega) (by show x ≤ 1000000; omega)) (in_str x1 hx20) hp (by omega) (by omega), by omega, fun k => ?_⟩
    rw [hp.sm k, r.sm k, htk]
    by_cases hs : sameV k ⟨3, x⟩ = true
    ·rw [if_pos hs, sameV_iff.1 hs, if_pos ⟨rfl, List.mem_append_right _ (List.mem_singleton.2 rfl)⟩]
    ·rw [if_neg hs]
     by_cases h3 : k.f0 = 3 ∧ k.f1 ∈ o.take i
     ·rw [if_pos h3, if_pos ⟨h3.1, List.mem_append_left _ h3.2⟩]
     ·rw [if_neg h3, if_neg]
      rintro ⟨z1, z2⟩
      rcases List.mem_append.1 z2 with z2 | z2
      ·exact h3 ⟨z1, z2⟩
      ·exact hs (sameV_iff.2 (s24_eq z1 (List.mem_singleton.1 z2)))
   refine Ev.step (fun f => ?_) (order_l2 hm ho d (i + 1) a' P' (by omega) r')
   have hf2 : dict_Put.f (tabS ⟨1, 0⟩ a P) 3 x 5 x = some (tabS ⟨1, 0⟩ a' P', [], 0) := hf
   rw [tallowlaw09_DictOrder.l2, if_pos (by omega), if_pos (by omega), if_pos (by omega), ← hx, show tallowlaw09_in.f x = some (3, x) from rfl, Option.bind_some, show tallowlaw09_str.f x = some (5, x) from rfl, Option.bind_some, hf2, Option.bind_some, if_pos rfl, if_pos (by rfl), wrapN (by omega) (by omega)]; rfl
theorem order_j2 {m : Nat} {o : List Int} (hm : m ≤ 20) (ho : Ord m o) : Ev (fun f => tallowlaw09_DictOrder.j2 f (m : Int) o) true := by
 refine Ev.step (fun f => ?_) (order_l2 hm ho m 0 [] [] (by omega) ⟨TOk.nil, ⟨fun x hx => by (cases hx), fun x hx => by (cases hx)⟩, by simp, fun k => by
  unfold sem
  rw [if_neg (by rw [placed_not (fun h => by have := h.2.2; simp at this; omega)]; decide), if_neg (by simp)]; rfl⟩)
 rw [tallowlaw09_DictOrder.j2, show dict_New.f = some (tabS ⟨1, 0⟩ [] []) from rfl, Option.bind_some]; rfl
theorem order_l1 {m : Nat} {by_ : List Int} (hm : m ≤ 20) (h1 : 1 ≤ m) (hby : ∀ x ∈ by_, 0 ≤ x ∧ x ≤ 255) : ∀ (d i : Nat) (o : List Int), by_.length ≤ i + d → i ≤ 40 → Ord m o → Ev (fun f => tallowlaw09_DictOrder.l1 f by_ (m : Int) o (i : Int)) true := by
 intro d
 induction d with
 | zero =>
  intro i o h hi ho
  refine Ev.step (fun f => ?_) (order_j2 hm ho)
  rw [tallowlaw09_DictOrder.l1, if_neg (by omega)]
 | succ d ih =>
  intro i o h hi ho
  have hol := ho.len
  by_cases hlt : i < by_.length
  ·by_cases h40 : i < 40
   ·obtain ⟨y, hy⟩ : ∃ y : Nat, rd by_ (i : Int) = (y : Int) ∧ y ≤ 255 := by
     have := hby _ (rdI_mem hlt)
     exact ⟨(rd by_ (i : Int)).toNat, by omega, by omega⟩
    obtain ⟨hy, hy2⟩ := hy
    have e1 : Int.tmod (i : Int) (m : Int) = ((i % m : Nat) : Int) := by rw [Int.tmod_eq_emod_of_nonneg (by omega)]; omega
    have e2 : Int.tmod (y : Int) (m : Int) = ((y % m : Nat) : Int) := by rw [Int.tmod_eq_emod_of_nonneg (by omega)]; omega
    have l1 : i % m < m := Nat.mod_lt _ (by omega)
    have l2 : y % m < m := Nat.mod_lt _ (by omega)
    have ho2 : Ord m ((o.set (i % m) (rd o ((y % m : Nat) : Int))).set (y % m) (rd o ((i % m : Nat) : Int))) := ⟨by rw [List.length_set, List.length_set]; exact hol, fun v => by rw [cntI_swap v (by omega) (by omega)]; exact ho.cnt v⟩
    refine Ev.step (fun f => ?_) (ih (i + 1) _ (by omega) (by omega) ho2)
    rw [tallowlaw09_DictOrder.l1, if_pos (by omega), if_pos (by omega), if_neg (by omega), if_pos (by omega), hy, wrapN (n := (y : Int)) (by omega) (by omega), e1, e2, if_pos (by omega), if_pos (by omega), if_pos (by omega), if_pos (by omega), Int.toNat_natCast, Int.toNat_natCast, wrapN (by omega) (by omega)]; rfl
   ·refine Ev.step (fun f => ?_) (order_j2 hm ho)
    rw [tallowlaw09_DictOrder.l1, if_pos (by omega), if_neg (by omega)]
  ·refine Ev.step (fun f => ?_) (order_j2 hm ho)
   rw [tallowlaw09_DictOrder.l1, if_neg (by omega)]
theorem order_l0 {m : Nat} {by_ : List Int} (hm : m ≤ 20) (h1 : 1 ≤ m) (hby : ∀ x ∈ by_, 0 ≤ x ∧ x ≤ 255) : ∀ (d j : Nat) (o : List Int), m = j + d → Ord j o → Ev (fun f => tallowlaw09_DictOrder.l0 f by_ (m : Int) o (j : Int)) true
 | 0, j, o, h, ho => by
  refine Ev.step (fun f => ?_) (order_l1 hm h1 hby by_.length 0 o (by omega) (by omega) (by rw [show m = j by omega]; exact ho))
  rw [tallowlaw09_DictOrder.l0, if_neg (by omega)]; rfl
 | d + 1, j, o, h, ho => by
  have hol := ho.len
  have ho2 : Ord (j + 1) (o ++ [(j : Int) + 1]) := by
   refine ⟨by rw [List.length_append, List.length_singleton]; omega, fun v => ?_⟩
   rw [cntI_app, ho.cnt v]
   show _ + ((if (j : Int) + 1 = v then 1 else 0) + 0) = _
   by_cases e : (j : Int) + 1 = v
   ·rw [if_pos e, if_neg (by omega), if_pos (by omega)]
   ·rw [if_neg e]
    by_cases e2 : 1 ≤ v ∧ v ≤ (j : Int)
    ·rw [if_pos e2, if_pos (by omega)]
    ·rw [if_neg e2, if_neg (by omega)]
  refine Ev.step (fun f => ?_) (order_l0 hm h1 hby d (j + 1) _ (by omega) ho2)
  rw [tallowlaw09_DictOrder.l0, if_pos (by omega), if_pos (by omega), wrapN (by omega) (by omega)]; rfl
theorem u8_of {x : Int} (h : (Lit.int .u8 x).wf = true) : 0 ≤ x ∧ x ≤ 255 := by
 simp [Lit.wf, IntKind.signed, IntKind.bits, IntKind.min, IntKind.max] at h
 omega
theorem order_all : tallowlaw09_DictOrder.Pure := by
 intro a0 l1 h0 _ _ hl
 refine Ev.at (f := fun k => tallowlaw09_DictOrder.f k a0 l1) ?_
 unfold tallowlaw09_DictOrder.f
 obtain ⟨z1, z2⟩ := u8_of h0
 obtain ⟨n, hn⟩ : ∃ n : Nat, a0 = (n : Int) := ⟨a0.toNat, by omega⟩
 subst hn
 have e : Int.tmod (n : Int) 20 = ((n % 20 : Nat) : Int) := by rw [Int.tmod_eq_emod_of_nonneg (by omega)]; omega
 rw [e, wrapN (n := ((n % 20 : Nat) : Int)) (by omega) (by omega), wrapN (by omega) (by omega)]
 have := order_l0 (m := 1 + n % 20) (by_ := l1) (by omega) (by omega) (fun x hx => u8_of (hl x hx)) (1 + n % 20) 0 [] (by omega) ⟨rfl, fun v => by rw [if_neg (by omega)]; rfl⟩
 rw [show ((1 + n % 20 : Nat) : Int) = 1 + ((n % 20 : Nat) : Int) by omega] at this
 exact this
end Go.Proofs.YtadhkfklkbdabaaR.G
end
