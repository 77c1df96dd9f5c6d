import Derived.LaidMore
import Derived.LaidHandle
import Derived.Stop.Joined
import Derived.Lib.IfaceEq
import Derived.Lib.IndexMore
import Derived.Shelf.Abstract
import Derived.LaidEql
import Derived.Stop.Asserts
import Derived.RowKitTokens
import Derived.Lib.LaidTab
import Derived.Lib.AppendIntMem
import Derived.Stop.LaidErr
import Derived.WalkKit
import Derived.Deep.RegionLaw
import Derived.Deep.Cut
import Derived.WalkSpells
import Derived.Maps.OwnOps
import Derived.Maps.OwnSet
import Derived.Maps.Views
import Derived.Maps.RangeWalk
import Derived.Maps.Own
import Derived.Test.YtlbaejihlcfpeaaGreatDoorPReZA
import Derived.Lib.Hide
set_option linter.unusedVariables false
set_option linter.unusedSimpArgs false
section
namespace Go.Proofs.YtlbaejihlcfpeaaGreatDoor.G
open Go.Shelf Go.Extern.Stop Go.Stop Go.Extern Go.RowKit Go.Proofs.YtlbaejihlcfpeaaGreatDoorW.PrintWords Go.Proofs.YtlbaejihlcfpeaaGreatDoorW.PrintLast Go.Proofs.YtlbaejihlcfpeaaGreatDoorW.PrintMore
set_option linter.unusedVariables false
set_option linter.unusedSimpArgs false
def dv (acc : Nat) : List UInt8 → Nat
  | [] => acc
  | c :: r => dv (acc * 10 + (c.toNat - 48)) r
theorem dv_ge : ∀ (l : List UInt8) (acc : Nat), acc ≤ dv acc l
  | [], acc => Nat.le_refl _
  | c :: r, acc => Nat.le_trans (by omega) (dv_ge r _)
theorem dv_pow (l : List UInt8) : ∀ acc : Nat, acc * 10 ^ l.length ≤ dv acc l := by
  induction l with
  | nil => intro acc; rw [List.length_nil, Nat.pow_zero, Nat.mul_one]; exact Nat.le_refl _
  | cons c r ih =>
    intro acc
    refine Nat.le_trans ?_ (ih (acc * 10 + (c.toNat - 48)))
    rw [List.length_cons, Nat.pow_succ, Nat.mul_comm (10 ^ r.length), ← Nat.mul_assoc]
    exact Nat.mul_le_mul_right _ (by omega)
def Dl (l : List UInt8) : Prop := ∀ c ∈ l, 48 ≤ c.toNat ∧ c.toNat ≤ 57
theorem dv_lt (l : List UInt8) : ∀ acc : Nat, Dl l → dv acc l < (acc + 1) * 10 ^ l.length := by
  induction l with
  | nil => intro acc _; rw [List.length_nil, Nat.pow_zero, Nat.mul_one]; exact Nat.lt_succ_self _
  | cons c r ih =>
    intro acc h
    have h1 := h c (List.mem_cons_self ..)
    refine Nat.lt_of_lt_of_le (ih (acc * 10 + (c.toNat - 48)) (fun d hd => h d (List.mem_cons_of_mem _ hd))) ?_
    rw [List.length_cons, Nat.pow_succ, Nat.mul_comm (10 ^ r.length), ← Nat.mul_assoc]
    exact Nat.mul_le_mul_right _ (by omega)
theorem parseM_eq (M : Nat) (h1M : 18446744073709551610 ≤ M) (h2M : M < 18446744073709551620) (l : List UInt8) : ∀ (acc : Nat), Dl l → acc ≤ M → Lib.parseUintM M acc l = if dv acc l ≤ M then .ok (dv acc l) else .range := by
  induction l with
  | nil => intro acc _ ha; rw [show dv acc [] = acc from rfl, if_pos ha]; rfl
  | cons c r ih =>
    intro acc h ha
    have h1 := h c (List.mem_cons_self ..)
    have hr : Dl r := fun d hd => h d (List.mem_cons_of_mem _ hd)
    have hg := dv_ge r (acc * 10 + (c.toNat - 48))
    unfold Lib.parseUintM
    rw [if_pos h1, show dv acc (c :: r) = dv (acc * 10 + (c.toNat - 48)) r from rfl]
    by_cases h2 : 1844674407370955162 ≤ acc
    · rw [if_pos h2, if_neg (by omega)]
    rw [if_neg h2]
    by_cases h3 : M < acc * 10 + (c.toNat - 48)
    · rw [if_pos h3, if_neg (by omega)]
    rw [if_neg h3]
    exact ih _ hr (by omega)
def negL (l : List UInt8) : Bool := match l with | [] => false | c :: _ => decide (c.toNat = 45)
def magL (l : List UInt8) : List UInt8 := match l with | [] => [] | c :: r => if c.toNat = 45 then r else c :: r
theorem parseI_eq (l : List UInt8) (hd : Dl (magL l)) (hne : magL l ≠ []) :
    (match Lib.parseIntB 64 l with | .ok v => ((v, 0) : Int × Int) | _ => (0, 15)) =
      if (negL l = true ∧ 9223372036854775808 < dv 0 (magL l)) ∨ (negL l = false ∧ 9223372036854775808 ≤ dv 0 (magL l)) then (0, 15) else (if negL l = true then -(dv 0 (magL l) : Int) else (dv 0 (magL l) : Int), 0) := by
  cases l with
  | nil => exact absurd rfl hne
  | cons c r =>
    have em : (if c.toNat = 43 ∨ c.toNat = 45 then r else c :: r) = magL (c :: r) := by
      show _ = if c.toNat = 45 then r else c :: r
      by_cases h : c.toNat = 45
      · rw [if_pos (.inr h), if_pos h]
      · have hm : magL (c :: r) = c :: r := if_neg h
        rw [hm] at hd
        have := hd c (List.mem_cons_self ..)
        rw [if_neg (by omega), if_neg h]
    unfold Lib.parseIntB
    simp only
    rw [em]
    have e1 : Lib.parseUintB 64 (magL (c :: r)) = if dv 0 (magL (c :: r)) ≤ 18446744073709551615 then .ok (dv 0 (magL (c :: r))) else .range := by
      unfold Lib.parseUintB
      rw [if_neg hne]
      exact parseM_eq (2 ^ 64 - 1) (by decide) (by decide) _ 0 hd (Nat.zero_le _)
    rw [e1]
    have en : negL (c :: r) = decide (c.toNat = 45) := rfl
    rw [en]
    generalize dv 0 (magL (c :: r)) = n
    by_cases hb : n ≤ 18446744073709551615
    · rw [if_pos hb]
      simp only
      by_cases hc : c.toNat = 45
      · simp only [hc, decide_true, not_true, false_and, if_false, true_and, if_true, Bool.true_eq_false, or_false]
        by_cases h2 : 9223372036854775808 < n
        · rw [if_pos h2, if_pos h2]
        · rw [if_neg h2, if_neg h2]
      · simp only [hc, decide_false, not_false_eq_true, true_and, if_false, false_and, Bool.false_eq_true, false_or]
        by_cases h2 : 9223372036854775808 ≤ n
        · rw [if_pos h2, if_pos h2]
        · rw [if_neg h2, if_neg h2]
    · rw [if_neg hb]
      simp only
      by_cases hc : c.toNat = 45
      · rw [if_pos (.inl ⟨by simpa using hc, by omega⟩)]
      · rw [if_pos (.inr ⟨by simpa using hc, by omega⟩)]
theorem trim_mag (s : ByteArray) : (trimD s).data.toList = magL s.data.toList := by
  rw [trim_data]; cases s.data.toList <;> rfl
def readL (l : List UInt8) : Int × Int :=
  let p := magL l
  if p = [] then (0, 4) else if p.head? = some 48 ∧ l ≠ [48] then (0, 4) else if ¬ (p.all fun c => decide (48 ≤ c.toNat ∧ c.toNat ≤ 57)) = true then (0, 4)
  else if (negL l = true ∧ 9223372036854775808 < dv 0 p) ∨ (negL l = false ∧ 9223372036854775808 ≤ dv 0 p) then (0, 15) else (if negL l = true then -(dv 0 p : Int) else (dv 0 p : Int), 0)
theorem size_list (p : ByteArray) : p.size = p.data.toList.length := by rw [Array.length_toList]; rfl
theorem bt0 (p : ByteArray) (h : p.size ≠ 0) : bt p 0 = 48 ↔ p.data.toList.head? = some 48 := by
  rw [size_list] at h
  cases hl : p.data.toList with
  | nil => rw [hl] at h; exact absurd rfl h
  | cons c r =>
    have := bt_get p 0 (by rw [hl]; simp)
    rw [show ((0 : Nat) : Int) = 0 from rfl] at this
    rw [this]
    have e : p.data.toList[0]'(by rw [hl]; simp) = c := by simp [hl]
    rw [e, List.head?_cons, Option.some.injEq, ← UInt8.toNat_inj]
    show _ ↔ c.toNat = 48
    omega
theorem allDig_iff (p : ByteArray) : allDig p ↔ (p.data.toList.all fun c => decide (48 ≤ c.toNat ∧ c.toNat ≤ 57)) = true := by
  constructor
  · intro h
    rw [List.all_eq_true]
    intro c hc
    exact decide_eq_true (allDig_mem h c hc)
  · intro h m hm
    rw [List.all_eq_true] at h
    have hm2 : m < p.data.toList.length := by rw [← size_list]; exact hm
    rw [bt_get p m hm2]
    have := of_decide_eq_true (h _ (List.getElem_mem hm2))
    omega
theorem parseF_read (s : ByteArray) : parseF s (trimD s) = readL s.data.toList := by
  unfold parseF readL
  simp only
  have e0 : (trimD s).size = 0 ↔ magL s.data.toList = [] := by rw [size_list, trim_mag, List.length_eq_zero_iff]
  by_cases h0 : (trimD s).size = 0
  · rw [if_pos h0, if_pos (e0.1 h0)]
  rw [if_neg h0, if_neg (fun h => h0 (e0.2 h))]
  have e1 : (bt (trimD s) 0 = 48 ∧ s ≠ ⟨#[48]⟩) ↔ ((magL s.data.toList).head? = some 48 ∧ s.data.toList ≠ [48]) := by
    rw [bt0 _ h0, trim_mag]
    have : s = ⟨#[48]⟩ ↔ s.data.toList = [48] := by
      constructor
      · intro h; rw [h]
      · intro h; apply toList_inj; rw [toList_data, h, ByteArray.toList_mk]
    rw [ne_eq, ne_eq, this]
  by_cases h1 : bt (trimD s) 0 = 48 ∧ s ≠ ⟨#[48]⟩
  · rw [if_pos h1, if_pos (e1.1 h1)]
  rw [if_neg h1, if_neg (fun h => h1 (e1.2 h))]
  have e2 : allDig (trimD s) ↔ ((magL s.data.toList).all fun c => decide (48 ≤ c.toNat ∧ c.toNat ≤ 57)) = true := by rw [allDig_iff, trim_mag]
  by_cases h2 : allDig (trimD s)
  case neg => rw [if_pos h2, if_pos (fun h => h2 (e2.2 h))]
  rw [if_neg (fun h => h h2), if_neg (fun h => h (e2.1 h2))]
  have hD : Dl (magL s.data.toList) := fun c hc => of_decide_eq_true (List.all_eq_true.1 (e2.1 h2) c hc)
  exact parseI_eq s.data.toList hD (fun h => h0 (e0.2 h))
theorem loop_all {α β : Type} {xs : List α} {ok : α → Bool} {bad r : β} {g : Nat → Int → Option β} {rest : Nat → Option β}
    (hstep : ∀ (k i : Nat) (h : i < xs.length), ok xs[i] = true → g (k + 1) i = g k ((i + 1 : Nat) : Int))
    (hbad : ∀ (k i : Nat) (h : i < xs.length), ok xs[i] = false → g (k + 1) i = some bad)
    (hend : ∀ k, g (k + 1) (xs.length : Int) = rest k) (hr : Ev rest r) : ∀ (d i : Nat), i + d = xs.length → Ev (fun k => g k i) (if (xs.drop i).all ok = true then r else bad)
  | 0, i, hi => by
    obtain rfl : i = xs.length := by omega
    rw [List.drop_length, List.all_nil, if_pos rfl]
    exact Ev.step (f := rest) hend hr
  | d + 1, i, hi => by
    have hlt : i < xs.length := by omega
    rw [List.drop_eq_getElem_cons hlt, List.all_cons]
    cases ho : ok xs[i] with
    | true =>
      rw [Bool.true_and]
      exact Ev.step (f := fun k => g k ((i + 1 : Nat) : Int)) (fun k => hstep k i hlt ho) (loop_all hstep hbad hend hr d (i + 1) (by omega))
    | false =>
      rw [Bool.false_and, if_neg (by decide)]
      exact Ev.step (f := fun _ => some bad) (fun k => hbad k i hlt ho) (Ev.now bad)
theorem loop_from {α β : Type} {xs : List α} {ok : α → Bool} {bad r : β} {g : Nat → Int → Option β} {rest : Nat → Option β}
    (hstep : ∀ (k i : Nat) (h : i < xs.length), ok xs[i] = true → g (k + 1) i = g k ((i + 1 : Nat) : Int))
    (hbad : ∀ (k i : Nat) (h : i < xs.length), ok xs[i] = false → g (k + 1) i = some bad)
    (hend : ∀ k, g (k + 1) (xs.length : Int) = rest k) (hr : Ev rest r) : Ev (fun k => g k 0) (if xs.all ok = true then r else bad) := by
  have := loop_all hstep hbad hend hr xs.length 0 (by omega)
  rwa [List.drop_zero] at this
theorem loop_stop {α β : Type} {xs : List α} {ok : α → Bool} {bad : β} {g : Nat → Int → Option β}
    (hstep : ∀ (k i : Nat) (h : i < xs.length), ok xs[i] = true → g (k + 1) i = g k ((i + 1 : Nat) : Int))
    (hbad : ∀ (k i : Nat) (h : i < xs.length), ok xs[i] = false → g (k + 1) i = some bad) : ∀ (d i : Nat), i + d = xs.length → (xs.drop i).all ok = false → Ev (fun k => g k i) bad
  | 0, i, hi, ha => by
    obtain rfl : i = xs.length := by omega
    rw [List.drop_length, List.all_nil] at ha; cases ha
  | d + 1, i, hi, ha => by
    have hlt : i < xs.length := by omega
    rw [List.drop_eq_getElem_cons hlt, List.all_cons] at ha
    cases ho : ok xs[i] with
    | true =>
      rw [ho, Bool.true_and] at ha
      exact Ev.step (f := fun k => g k ((i + 1 : Nat) : Int)) (fun k => hstep k i hlt ho) (loop_stop hstep hbad d (i + 1) (by omega) ha)
    | false => exact Ev.step (f := fun _ => some bad) (fun k => hbad k i hlt ho) (Ev.now bad)
def finF (x4 : Bool) (n : Nat) : Int × Int := if (x4 = true ∧ 9223372036854775808 < n) ∨ (x4 = false ∧ 9223372036854775808 ≤ n) then (0, 15) else (if x4 = true then -(n : Int) else (n : Int), 0)
theorem fin_ev (p : ByteArray) (x4 : Bool) (n : Nat) (hn : n < 2 ^ 64) : Ev (fun k => tallowref01_Parse.l1 k p x4 n p.size) (finF x4 n) := by
  cases x4 with
  | true =>
    by_cases h : 9223372036854775808 < n
    · refine Ev.step (f := fun k => tallowref01_Parse.j5 k true n true) (fun k => by rw [tallowref01_Parse.l1, if_neg (by omega), if_pos rfl, if_pos (by omega)]) ?_
      unfold finF
      rw [if_pos (.inl ⟨rfl, h⟩)]
      exact Ev.step (f := fun _ => some (0, 15)) (fun k => by rw [tallowref01_Parse.j5, if_pos rfl]) (Ev.now _)
    · refine Ev.step (f := fun k => tallowref01_Parse.j5 k true n false) (fun k => by rw [tallowref01_Parse.l1, if_neg (by omega), if_pos rfl, if_neg (by omega)]) ?_
      unfold finF
      rw [if_neg (by rintro (⟨_, h'⟩ | ⟨h', _⟩); omega; cases h'), if_pos rfl]
      refine Ev.step (f := fun k => (tallowref01_less0.f k n).bind fun t190 => (some (wrap64 (t190), 0))) (fun k => by rw [tallowref01_Parse.j5, if_neg (by decide), if_pos rfl]) ?_
      refine Ev.bind (f := fun _ t190 => some (wrap64 t190, 0)) (less0_of hn) (Ev.eq (Ev.now _) ?_)
      congr 1
      unfold wrap64
      omega
  | false =>
    refine Ev.step (f := fun k => tallowref01_Parse.j5 k false n (decide ((n : Int) ≥ 9223372036854775808))) (fun k => by rw [tallowref01_Parse.l1, if_neg (by omega), if_neg (by decide)]) ?_
    unfold finF
    by_cases h : 9223372036854775808 ≤ n
    · rw [if_pos (.inr ⟨rfl, h⟩), decide_eq_true (by omega)]
      exact Ev.step (f := fun _ => some (0, 15)) (fun k => by rw [tallowref01_Parse.j5, if_pos rfl]) (Ev.now _)
    · rw [if_neg (by rintro (⟨h', _⟩ | ⟨_, h'⟩); cases h'; omega), if_neg (by decide), decide_eq_false (by omega)]
      refine Ev.step (f := fun _ => some ((n : Int), 0)) (fun k => by rw [tallowref01_Parse.j5, if_neg (by decide), if_neg (by decide), w_id (by omega)]) (Ev.now _)
theorem val_ev (p : ByteArray) (x4 : Bool) (hD : Dl p.data.toList) (hsz : p.size ≤ 19) : ∀ (d i acc : Nat), i + d = p.size → dv acc (p.data.toList.drop i) < 2 ^ 64 →
    Ev (fun k => tallowref01_Parse.l1 k p x4 acc i) (finF x4 (dv acc (p.data.toList.drop i)))
  | 0, i, acc, hi, hv => by
    obtain rfl : i = p.size := by omega
    rw [List.drop_eq_nil_of_le (by rw [← size_list]; exact Nat.le_refl _)] at hv ⊢
    exact fin_ev p x4 acc hv
  | d + 1, i, acc, hi, hv => by
    have hl : i < p.data.toList.length := by rw [← size_list]; omega
    have hc := hD _ (List.getElem_mem hl)
    rw [List.drop_eq_getElem_cons hl] at hv ⊢
    have hg : acc * 10 + (p.data.toList[i].toNat - 48) ≤ dv (acc * 10 + (p.data.toList[i].toNat - 48)) (p.data.toList.drop (i + 1)) := dv_ge _ _
    have hv2 : dv (acc * 10 + (p.data.toList[i].toNat - 48)) (p.data.toList.drop (i + 1)) < 2 ^ 64 := hv
    refine Ev.step (f := fun k => tallowref01_Parse.l1 k p x4 ((acc * 10 + (p.data.toList[i].toNat - 48) : Nat) : Int) ((i + 1 : Nat) : Int)) (fun k => ?_) (val_ev p x4 hD hsz d (i + 1) _ (by omega) hv2)
    rw [tallowref01_Parse.l1, if_pos (by omega), if_pos (by omega), bt_get p i hl]
    have e1 : IntKind.u64.wrap (10 * (acc : Int)) = 10 * (acc : Int) := u64_small (by omega)
    have e2 : ((p.data.toList[i].toNat : Int) - 48) % 256 = ((p.data.toList[i].toNat - 48 : Nat) : Int) := by omega
    rw [e1, e2, u64_small (by omega), w_id (x := (i : Int) + 1) (by omega)]
    congr 1
    omega
theorem dig_ev (p : ByteArray) (x4 : Bool) (hsz : p.size ≤ 140737488353280) (hne : p.size ≠ 0) (hz : p.size > 1 → p.data.toList.head? ≠ some 48) :
    Ev (fun k => tallowref01_Parse.l0 k p x4 0) (if (p.data.toList.all fun c => decide (48 ≤ c.toNat ∧ c.toNat ≤ 57)) = true then finF x4 (dv 0 p.data.toList) else (0, 4)) := by
  by_cases hall : (p.data.toList.all fun c => decide (48 ≤ c.toNat ∧ c.toNat ≤ 57)) = true
  · have hD : Dl p.data.toList := fun c hc => of_decide_eq_true (List.all_eq_true.1 hall c hc)
    refine loop_from (xs := p.data.toList) (ok := fun c => decide (48 ≤ c.toNat ∧ c.toNat ≤ 57)) (g := fun k i => tallowref01_Parse.l0 k p x4 i) (rest := fun k => if (p.size : Int) > 19 then some (0, 15) else tallowref01_Parse.l1 k p x4 0 0) ?_ ?_ ?_ ?_
    · intro k i h ho
      have h2 := of_decide_eq_true ho
      have h3 : i < p.size := by rw [size_list]; exact h
      show tallowref01_Parse.l0 (k + 1) p x4 i = _
      rw [tallowref01_Parse.l0, if_pos (by omega), if_pos (by omega), bt_get p i h, if_neg (by omega), if_neg (by omega), w_id (x := (i : Int) + 1) (by omega)]
      rfl
    · intro k i h ho
      have h2 := of_decide_eq_false ho
      exact absurd (of_decide_eq_true (List.all_eq_true.1 hall _ (List.getElem_mem h))) h2
    · intro k
      show tallowref01_Parse.l0 (k + 1) p x4 p.data.toList.length = _
      rw [← size_list, tallowref01_Parse.l0, if_neg (by omega)]
    · by_cases h19 : p.size > 19
      · have hbig : 10 ^ 19 ≤ dv 0 p.data.toList := by
          cases hl : p.data.toList with
          | nil => rw [size_list, hl] at hne; exact absurd rfl hne
          | cons c r =>
            have h1 := hz (by omega)
            rw [hl] at h1
            have hc := hD c (by rw [hl]; exact List.mem_cons_self ..)
            have hc2 : c.toNat ≠ 48 := fun e => h1 (by rw [List.head?_cons]; congr 1; exact UInt8.toNat_inj.1 e)
            have hlen : p.size = r.length + 1 := by rw [size_list, hl]; rfl
            have h3 := dv_pow r (0 * 10 + (c.toNat - 48))
            show 10 ^ 19 ≤ dv (0 * 10 + (c.toNat - 48)) r
            refine Nat.le_trans (Nat.le_trans (Nat.pow_le_pow_right (by decide) (show 19 ≤ r.length by omega)) ?_) h3
            exact Nat.le_mul_of_pos_left _ (by omega)
        have hf : finF x4 (dv 0 p.data.toList) = (0, 15) := by
          have hb : (9223372036854775808 : Nat) < 10 ^ 19 := by decide
          unfold finF
          cases x4 with
          | true => rw [if_pos (.inl ⟨rfl, Nat.lt_of_lt_of_le hb hbig⟩)]
          | false => rw [if_pos (.inr ⟨rfl, Nat.le_of_lt (Nat.lt_of_lt_of_le hb hbig)⟩)]
        rw [hf]
        exact Ev.congr (f := fun _ => some (0, 15)) (fun k => by rw [if_pos (by omega)]) (Ev.now _)
      · refine Ev.congr (f := fun k => tallowref01_Parse.l1 k p x4 ((0 : Nat) : Int) ((0 : Nat) : Int)) (fun k => by rw [if_neg (by omega)]; rfl) ?_
        have hlt : dv 0 p.data.toList < 2 ^ 64 := by
          have h1 := dv_lt p.data.toList 0 hD
          rw [← size_list, Nat.zero_add, Nat.one_mul] at h1
          exact Nat.lt_of_lt_of_le h1 (Nat.le_trans (Nat.pow_le_pow_right (by decide) (show p.size ≤ 19 by omega)) (by decide))
        have := val_ev p x4 hD (by omega) p.size 0 0 (by omega) (by rw [List.drop_zero]; exact hlt)
        rwa [List.drop_zero] at this
  · rw [if_neg hall]
    have h0 := loop_stop (xs := p.data.toList) (ok := fun c => decide (48 ≤ c.toNat ∧ c.toNat ≤ 57)) (bad := ((0, 4) : Int × Int)) (g := fun k i => tallowref01_Parse.l0 k p x4 i) (fun k i h ho => by
      have h2 := of_decide_eq_true ho
      have h3 : i < p.size := by rw [size_list]; exact h
      show tallowref01_Parse.l0 (k + 1) p x4 i = _
      rw [tallowref01_Parse.l0, if_pos (by omega), if_pos (by omega), bt_get p i h, if_neg (by omega), if_neg (by omega), w_id (x := (i : Int) + 1) (by omega)]
      rfl) (fun k i h ho => by
      have h2 := of_decide_eq_false ho
      have h3 : i < p.size := by rw [size_list]; exact h
      show tallowref01_Parse.l0 (k + 1) p x4 i = _
      rw [tallowref01_Parse.l0, if_pos (by omega), if_pos (by omega), bt_get p i h]
      by_cases h4 : (p.data.toList[i].toNat : Int) < 48
      · rw [if_pos h4]
      · rw [if_neg h4, if_pos (by omega)]) p.data.toList.length 0 (by omega) (by rw [List.drop_zero]; exact Bool.eq_false_iff.mpr hall)
    exact h0
def minusB (s : ByteArray) : Bool := negL s.data.toList
theorem minus_bt (s : ByteArray) (h : 0 < s.size) : (bt s 0 == 45) = minusB s := by
  unfold minusB
  rw [size_list] at h
  cases hl : s.data.toList with
  | nil => rw [hl] at h; simp at h
  | cons c r =>
    have h3 := bt_get s 0 (by rw [hl]; simp)
    rw [show ((0 : Nat) : Int) = 0 from rfl] at h3
    have e : s.data.toList[0]'(by rw [hl]; simp) = c := by simp [hl]
    rw [h3, e, Bool.eq_iff_iff]
    unfold negL
    simp
    omega
theorem trim_minus (s : ByteArray) : trimD s = if minusB s = true then s.extract 1 s.size else s := by
  unfold trimD
  by_cases h : 0 < s.size
  · rw [← minus_bt s h]
    by_cases h2 : bt s 0 = 45
    · rw [if_pos ⟨h, h2⟩, if_pos (beq_iff_eq.mpr h2)]
    · rw [if_neg (fun e => h2 e.2), if_neg (fun e => h2 (beq_iff_eq.mp e))]
  · rw [if_neg (fun e => h e.1)]
    have : minusB s = false := by
      unfold minusB
      rw [size_list] at h
      cases hl : s.data.toList with
      | nil => rfl
      | cons c r => rw [hl] at h; simp at h
    rw [this, if_neg (by decide)]
theorem r_parse (s : ByteArray) (hs : s.size ≤ 140737488353280) : Ev (fun k => tallowref01_Parse.f k s) (readL s.data.toList) := by
  have hts := trim_size s
  have e0 : Ev (fun k => tallowref01_Parse.j1 k (trimD s) (minusB s)) (readL s.data.toList) := by
    unfold readL
    simp only
    rw [← trim_mag]
    by_cases h0 : (trimD s).size = 0
    · have h0l : (trimD s).data.toList = [] := by rw [size_list] at h0; exact List.length_eq_zero_iff.mp h0
      rw [if_pos h0l]
      refine Ev.step (f := fun k => tallowref01_Parse.j2 k (trimD s) (minusB s) true) (fun k => by rw [tallowref01_Parse.j1, if_pos (by omega)]) ?_
      exact Ev.step (f := fun _ => some (0, 4)) (fun k => by rw [tallowref01_Parse.j2, if_pos rfl]) (Ev.now _)
    have h0l : (trimD s).data.toList ≠ [] := fun e => h0 (by rw [size_list, e]; rfl)
    rw [if_neg h0l]
    by_cases h1 : (trimD s).data.toList.head? = some 48 ∧ s.data.toList ≠ [48]
    · rw [if_pos h1]
      have hb := (bt0 _ h0).2 h1.1
      refine Ev.step (f := fun k => tallowref01_Parse.j2 k (trimD s) (minusB s) true) (fun k => ?_) (Ev.step (f := fun _ => some (0, 4)) (fun k => by rw [tallowref01_Parse.j2, if_pos rfl]) (Ev.now _))
      rw [tallowref01_Parse.j1, if_neg (by omega), if_pos (by omega), if_pos hb]
      by_cases h2 : ((trimD s).size : Int) > 1
      · rw [if_pos h2]
      · rw [if_neg h2]
        congr 1
        cases hm : minusB s with
        | true => rfl
        | false =>
          exfalso
          apply h1.2
          have et : trimD s = s := by rw [trim_minus, hm]; rfl
          rw [et] at h1 h0 h2
          rw [size_list] at h0 h2
          cases hl : s.data.toList with
          | nil => rw [hl] at h0; exact absurd rfl h0
          | cons c r =>
            rw [hl] at h1 h2
            have hc : c = 48 := Option.some.inj h1.1
            have hr : r = [] := by
              cases r with
              | nil => rfl
              | cons d t => simp at h2; omega
            rw [hc, hr]
    rw [if_neg h1]
    have e1 : ∀ k, tallowref01_Parse.j1 (k + 1) (trimD s) (minusB s) = tallowref01_Parse.j2 k (trimD s) (minusB s) false := fun k => by
      rw [tallowref01_Parse.j1, if_neg (by omega), if_pos (by omega)]
      by_cases hb : bt (trimD s) 0 = 48
      · have hh := (bt0 _ h0).1 hb
        have hs48 : s.data.toList = [48] := Classical.byContradiction fun e => h1 ⟨hh, e⟩
        have hm : minusB s = false := by unfold minusB; rw [hs48]; rfl
        have et : trimD s = s := by rw [trim_minus, hm]; rfl
        rw [if_pos hb, et, hm]
        have : s.size = 1 := by rw [size_list, hs48]; rfl
        rw [if_neg (by omega)]
      · rw [if_neg hb]
    refine Ev.step e1 (Ev.step (f := fun k => tallowref01_Parse.l0 k (trimD s) (minusB s) 0) (fun k => by rw [tallowref01_Parse.j2, if_neg (by decide)]) ?_)
    refine Ev.eq (dig_ev (trimD s) (minusB s) (by omega) h0 (fun h2 hh => h1 ⟨hh, fun e => ?_⟩)) ?_
    · have hm : minusB s = false := by unfold minusB; rw [e]; rfl
      have et : trimD s = s := by rw [trim_minus, hm]; rfl
      rw [et, size_list, e] at h2
      simp at h2
    · by_cases hall : ((trimD s).data.toList.all fun c => decide (48 ≤ c.toNat ∧ c.toNat ≤ 57)) = true
      · rw [if_pos hall, if_neg (fun h => h hall)]; rfl
      · rw [if_neg hall, if_pos hall]
  by_cases h : 0 < s.size
  · refine Ev.congr (f := fun k => tallowref01_Parse.j0 k s (minusB s)) (fun k => by unfold tallowref01_Parse.f; rw [if_pos (by omega), if_pos (by omega), minus_bt s h]) ?_
    refine Ev.step (f := fun k => tallowref01_Parse.j1 k (trimD s) (minusB s)) (fun k => ?_) e0
    rw [tallowref01_Parse.j0, trim_minus]
    cases minusB s with
    | true => rw [if_pos rfl, if_pos rfl, if_pos (by omega)]
    | false => rw [if_neg (by decide), if_neg (by decide)]
  · have hm : minusB s = false := by
      unfold minusB
      rw [size_list] at h
      cases hl : s.data.toList with
      | nil => rfl
      | cons c r => rw [hl] at h; simp at h
    refine Ev.congr (f := fun k => tallowref01_Parse.j0 k s (minusB s)) (fun k => by unfold tallowref01_Parse.f; rw [if_neg (by omega), hm]) ?_
    refine Ev.step (f := fun k => tallowref01_Parse.j1 k (trimD s) (minusB s)) (fun k => ?_) e0
    rw [tallowref01_Parse.j0, trim_minus, hm, if_neg (by decide), if_neg (by decide)]
end Go.Proofs.YtlbaejihlcfpeaaGreatDoor.G
end
