import Derived.LaidMore
import Derived.LaidHandle
import Derived.Stop.Joined
import Derived.Lib.IfaceEq
import Derived.Lib.IndexMore
import Derived.Shelf.Abstract
import Derived.LaidEql
import Derived.Stop.Asserts
import Derived.RowKitTokens
import Derived.Lib.LaidTab
import Derived.Lib.AppendIntMem
import Derived.Stop.LaidErr
import Derived.WalkKit
import Derived.Deep.RegionLaw
import Derived.Deep.Cut
import Derived.WalkSpells
import Derived.Maps.OwnOps
import Derived.Maps.OwnSet
import Derived.Maps.Views
import Derived.Maps.RangeWalk
import Derived.Maps.Own
import Derived.Test.YtlbaejihlcfpeaaDoorPNmGW
import Derived.Lib.Hide
set_option linter.unusedVariables false
set_option linter.unusedSimpArgs false
section
namespace Go.Proofs.YtlbaejihlcfpeaaDoor.G
open Go.Proofs.YtlbaejihlcfpeaaDoor.G
open Go.Shelf Go.Extern.Stop Go.Stop Go.Extern Go.RowKit Go.Proofs.YtlbaejihlcfpeaaDoorW.PrintWords Go.Proofs.YtlbaejihlcfpeaaDoorW.PrintLast Go.Proofs.YtlbaejihlcfpeaaDoorW.PrintMore
set_option linter.unusedVariables false
set_option linter.unusedSimpArgs false
def allDig (p : ByteArray) : Prop := ∀ m : Nat, m < p.size → 48 ≤ bt p m ∧ bt p m ≤ 57
instance (p : ByteArray) : Decidable (allDig p) := inferInstanceAs (Decidable (∀ m : Nat, m < p.size → _))
def parseF (s p : ByteArray) : Int × Int :=
  if p.size = 0 then (0, 4) else if bt p 0 = 48 ∧ s ≠ ⟨#[48]⟩ then (0, 4) else if ¬ allDig p then (0, 4) else match Lib.parseIntB 64 s.data.toList with
    | .ok v => (v, 0)
    | _ => (0, 15)
theorem toList_data (p : ByteArray) : p.toList = p.data.toList := by cases p; exact ByteArray.toList_mk _
theorem toList_len (p : ByteArray) : p.toList.length = p.size := by rw [toList_data, Array.length_toList]; rfl
theorem size_zero_list {p : ByteArray} (h : p.size = 0) : p.toList = [] := List.eq_nil_of_length_eq_zero (by rw [toList_len, h])
theorem size_pos_list {p : ByteArray} (h : p.size ≠ 0) : p.toList ≠ [] := fun e => h (by rw [← toList_len, e]; rfl)
theorem toList_inj {a b : ByteArray} (h : a.toList = b.toList) : a = b := by
  rw [toList_data, toList_data] at h
  cases a; cases b; congr 1; exact Array.toList_inj.mp h
theorem parse_end (s p : ByteArray) (w : World) (hL : Laid w) (hs : s.size ≤ 140737488353280) (hd : allDig p) (hns : Lib.parseIntB 64 s.data.toList ≠ .«syntax»)
    (h0 : p.size ≠ 0) (h1 : ¬ (bt p 0 = 48 ∧ s ≠ ⟨#[48]⟩)) :
    Calls Tryd.prog 42 #[.string s, .int .i64 10, .int .i64 64] w fun e w' => Below w.heap.size w w' ∧ (∃ b, w'.cell? ⟨2, 0, none⟩ = some (.iface 115 (.pointer (some b))) ∧
      ((∃ v, e = .returned (.tuple #[.int .i64 v, .nilIface]) ∧ parseF s p = (v, 0)) ∨ (∃ v pb, e = .returned (.tuple #[.int .i64 v, .iface 105 (.pointer (some ⟨pb, 0, none⟩))]) ∧ w'.cell? ⟨pb, 2, none⟩ = some (.iface 115 (.pointer (some b))) ∧ parseF s p = (0, 15)))) := by
  obtain ⟨b, hb⟩ := hL.rng
  have hgl : Tryd.prog.globalNamed "strconv.ErrRange" = some 2 := by kernel_rfl
  have hc : w.cell? ⟨2, 0, none⟩ = some (.iface 115 (.pointer (some b))) := by simpa using World.var?_cell hgl hb 0
  have hp : parseF s p = match Lib.parseIntB 64 s.data.toList with
    | .ok v => (v, 0)
    | _ => (0, 15) := by unfold parseF; rw [if_neg h0, if_neg h1, if_neg (fun h => h hd)]
  have hlt : 2 < w.heap.size := World.block_lt_of_cell? w _ hc
  cases hr : Lib.parseIntB 64 s.data.toList with
  | ok v =>
    rw [hr] at hp
    refine (Tryd.strconv_ParseInt_10_at64_ok s (by omega) v hr w).mono ?_
    rintro e w' ⟨rfl, hw⟩
    have hbel : Below w.heap.size w w' := by
      rcases hw with rfl | ⟨t, rfl⟩
      · exact Below.refl _ _
      · exact Lib.bytesWorld_below _ _ _
    exact ⟨hbel, b, (hbel.cell hlt).trans hc, .inl ⟨v, rfl, hp⟩⟩
  | «syntax» => exact absurd hr hns
  | range =>
    rw [hr] at hp
    refine (Tryd.strconv_ParseInt_10_at64_range_var s (by omega) hr 115 (.pointer (some b)) w hb).mono ?_
    rintro e w' ⟨pb, rfl, _, hk, hbel⟩
    exact ⟨hbel, b, (hbel.cell hlt).trans hc, .inr ⟨_, pb, rfl, (blk_cell hk 2).trans rfl, hp⟩⟩
def Dg (p : ByteArray) (k : Nat) : Prop := ∀ m : Nat, m < k → 48 ≤ bt p m ∧ bt p m ≤ 57
theorem Dg.succ {p : ByteArray} {k : Nat} (h : Dg p k) (h1 : 48 ≤ bt p k) (h2 : bt p k ≤ 57) : Dg p (k + 1) := fun m hm => by
  by_cases e : m = k
  · subst e; exact ⟨h1, h2⟩
  · exact h m (by omega)
set_option maxHeartbeats 8000000 in
set_option maxRecDepth 100000 in
theorem parse_any (s p : ByteArray) (w : World) (hL : Laid w) (hs : s.size ≤ 140737488353280) (hps : p.size ≤ s.size) (ht : strings_TrimPrefix.f s ⟨#[45]⟩ = some p) (hns : p.size ≠ 0 → allDig p → Lib.parseIntB 64 s.data.toList ≠ .«syntax») :
    Calls Tryd.prog 32 #[.string s] w fun e w' => e = .returned (.tuple #[.int .i64 (parseF s p).1, .int .i64 (parseF s p).2]) ∧ Below w.heap.size w w' := by
  have HT := Aside0.mk ht
  clear ht
  have HL := Aside0.mk hL
  clear hL
  generalize hres : parseF s p = res
  have HRES := Aside0.mk hres
  clear hres
  have HNS := Aside0.mk hns
  clear hns
  have HS := Aside0.mk hs
  clear hs
  by_cases h0 : p.size = 0
  · have hr : res = (0, 4) := by rw [← HRES.out]; unfold parseF; rw [if_pos h0]
    have hl := size_zero_list h0
    have HR := Aside0.mk hr
    clear hr h0
    go_enter Tryd.func32, Tryd.ntmps32
    go_wp2_with fail
    refine (strings_TrimPrefix.calls s ⟨#[45]⟩ p _ HT.out).mono ?_
    rintro e w' ⟨rfl, ⟨nd, rfl⟩⟩
    go_wp2_with fail
    go_ret2
    exact ⟨by simp only [HR.out]; rfl, by repeat (first | exact Below.refl _ _ | apply pw_below_drewN | apply below_drew1)⟩
  · have hl0 := size_pos_list h0
    have hl1 : p.toList.isEmpty = false := by rw [List.isEmpty_eq_false_iff]; exact hl0
    have hx0 : ∀ h : 0 < p.size, ((p[0]'h).toNat : Int) = bt p 0 := bt_at p 0
    have hps0 : 0 < p.size := by omega
    by_cases h1 : bt p 0 = 48 ∧ s ≠ ⟨#[48]⟩
    · have hr : res = (0, 4) := by rw [← HRES.out]; unfold parseF; rw [if_neg h0, if_pos h1]
      have HR := Aside0.mk hr
      clear hr h0
      have hb0 : (bt p 0 == 48) = true := beq_iff_eq.mpr h1.1
      have hs1 : ¬ s.toList = [48] := fun e => h1.2 (toList_inj (e.trans (ByteArray.toList_mk _).symm))
      have hs2 : (s.toList == [48]) = false := by rw [beq_eq_false_iff_ne]; exact hs1
      clear h1
      go_enter Tryd.func32, Tryd.ntmps32
      go_wp2_with fail
      refine (strings_TrimPrefix.calls s ⟨#[45]⟩ p _ HT.out).mono ?_
      rintro e w' ⟨rfl, ⟨nd, rfl⟩⟩
      go_wp2_with fail
      go_ret2
      exact ⟨by simp only [HR.out]; rfl, by repeat (first | exact Below.refl _ _ | apply pw_below_drewN | apply below_drew1)⟩
    · have HN := Aside0.mk h1
      have HP0 := Aside0.mk h0
      have hc : ((bt p 0 == 48) = true ∧ (s.toList == [48]) = true) ∨ (bt p 0 == 48) = false := by
        by_cases h2 : bt p 0 = 48
        · refine .inl ⟨beq_iff_eq.mpr h2, ?_⟩
          have : s = ⟨#[48]⟩ := Classical.byContradiction fun e => h1 ⟨h2, e⟩
          rw [this, ByteArray.toList_mk]; rfl
        · exact .inr (beq_eq_false_iff_ne.mpr h2)
      clear h1 h0
      have hbad : ∀ k : Nat, k < p.size → ¬ (48 ≤ bt p k ∧ bt p k ≤ 57) → res = (0, 4) := fun k hk hn => by
        rw [← HRES.out]; unfold parseF
        rw [if_neg HP0.out, if_neg HN.out, if_pos (fun h => hn (h k hk))]
      have HBAD := Aside0.mk hbad
      clear hbad
      rcases hc with ⟨hb0, hs2⟩ | hb0
      all_goals
        go_enter Tryd.func32, Tryd.ntmps32
        go_wp2_with fail
        refine (strings_TrimPrefix.calls s ⟨#[45]⟩ p _ HT.out).mono ?_
        rintro e w' ⟨rfl, ⟨nd, rfl⟩⟩
        go_wp2_with fail
        clear hx0 hl0 hl1 hb0
        (try clear hs2)
        go_loop [23, 5] (fun i _ => ∃ k : Nat, k ≤ p.size ∧ i = .int .i64 k ∧ Dg p k) (fun i _ => p.size - (Lib.intOf i).toNat)
        case atStart => exact ⟨0, Nat.zero_le _, rfl, fun m hm => by omega⟩
        case round =>
          obtain ⟨k, hk, rfl, hD⟩ := hrel
          have HD := Aside0.mk hD
          clear hD
          have HSZ := Aside0.mk (show (p.size : Int) ≤ 140737488353280 from by have := HS.out; omega)
          have hszk : (k : Int) ≤ 140737488353280 := by have := HSZ.out; omega
          by_cases hlt : k < p.size
          · have hx : ∀ h : k < p.size, ((p[k]'h).toNat : Int) = bt p k := fun h => bt_at p (k : Int) (by simpa using h)
            by_cases c1 : bt p k < 48
            · have c1b : decide (bt p k < 48) = true := decide_eq_true c1
              have HR := Aside0.mk (HBAD.out k hlt (by omega))
              go_wp2_with fail
              go_ret2
              exact ⟨by simp only [HR.out]; rfl, by repeat (first | exact Below.refl _ _ | apply pw_below_drewN | apply below_drew1)⟩
            · have c1b : decide (bt p k < 48) = false := decide_eq_false c1
              by_cases c2 : 57 < bt p k
              · have c2b : decide (57 < bt p k) = true := decide_eq_true c2
                have HR := Aside0.mk (HBAD.out k hlt (by omega))
                go_wp2_with fail
                go_ret2
                exact ⟨by simp only [HR.out]; rfl, by repeat (first | exact Below.refl _ _ | apply pw_below_drewN | apply below_drew1)⟩
              · have c2b : decide (57 < bt p k) = false := decide_eq_false c2
                go_wp2_with fail
                go_round
                case rel => exact ⟨k + 1, by omega, by go_num, HD.out.succ (by omega) (by omega)⟩
                case measure => simp [Lib.intOf]; omega
          · have hall : allDig p := fun m hm => HD.out m (by omega)
            have HA := Aside0.mk hall
            clear hall
            go_wp2_with fail
            refine (parse_end s p _ (Laid.below (pw_below_drewN (Below.refl _ _) _) HL.out) HS.out HA.out (HNS.out HP0.out HA.out) HP0.out HN.out).mono ?_
            rintro e w' ⟨hbel, b, hc0, hcase⟩
            have HB := Aside0.mk ((pw_below_drewN (Below.refl w.heap.size w) nd).trans (hbel.mono (by simp)))
            clear hbel
            rcases hcase with ⟨v, rfl, hf⟩ | ⟨v, pb, rfl, hc2, hf⟩
            · have HF := Aside0.mk (HRES.out.symm.trans hf)
              clear hf
              go_wp2_with fail
              refine (is_nil b _).mono ?_
              rintro e w' ⟨rfl, rfl⟩
              go_wp2_with fail
              go_ret2
              exact ⟨by simp only [HF.out]; rfl, by repeat (first | exact HB.out | apply pw_below_drewN | apply below_drew1)⟩
            · have HF := Aside0.mk (HRES.out.symm.trans hf)
              clear hf
              go_wp2_with fail
              refine (is_num_same pb 0 b _ (by simpa using hc2)).mono ?_
              rintro e w' ⟨rfl, rfl⟩
              go_wp2_with fail
              go_ret2
              exact ⟨by simp only [HF.out]; rfl, by repeat (first | exact HB.out | apply pw_below_drewN | apply below_drew1)⟩
def trimD (s : ByteArray) : ByteArray := if 0 < s.size ∧ bt s 0 = 45 then s.extract 1 s.size else s
theorem trim_eq (s : ByteArray) : strings_TrimPrefix.f s ⟨#[45]⟩ = some (trimD s) := by
  have e1 : (⟨#[45]⟩ : ByteArray).size = 1 := rfl
  unfold strings_TrimPrefix.f stringslite_TrimPrefix.f stringslite_HasPrefix.f
  rw [e1]
  unfold trimD
  by_cases h0 : 0 < s.size
  · rw [if_pos (show (s.size : Int) ≥ ((1 : Nat) : Int) by omega), if_pos (by decide), if_pos (show ((1 : Nat) : Int) ≤ (s.size : Int) by omega)]
    simp only [Option.bind_some]
    have e2 : ((s.extract 0 ((1 : Nat) : Int).toNat).toList == (⟨#[45]⟩ : ByteArray).toList) = decide (bt s 0 = 45) := by
      rw [ByteArray.toList_mk, toList_data]
      have : (s.extract 0 ((1 : Nat) : Int).toNat).data.toList = [s[0]'h0] := by
        rw [ByteArray.data_extract, Array.toList_extract]
        show (s.data.toList.drop 0).take (1 - 0) = _
        have hl : s.data.toList.length = s.size := by rw [Array.length_toList]; rfl
        cases hs : s.data.toList with
        | nil => rw [hs] at hl; simp at hl; omega
        | cons c l =>
          have : s[0]'h0 = c := by
            have h2 : s.data.toList[0]'(by rw [hl]; exact h0) = s[0]'h0 := rfl
            rw [← h2]; simp [hs]
          rw [this]; rfl
      rw [this]
      have h3 := bt_at s 0 h0
      have h4 : (s[0]'h0 = 45) ↔ bt s 0 = 45 := by
        rw [← h3, ← UInt8.toNat_inj]
        show (s[0]'h0).toNat = 45 ↔ ((s[0]'h0).toNat : Int) = 45
        omega
      rw [Bool.eq_iff_iff]
      simp [h4]
    rw [e2]
    by_cases h1 : bt s 0 = 45
    · have e3 : (if 0 < s.size ∧ bt s 0 = 45 then s.extract 1 s.size else s) = s.extract 1 s.size := if_pos ⟨h0, h1⟩
      rw [e3, decide_eq_true h1, if_pos rfl, if_pos (by decide), if_pos (show ((1 : Nat) : Int) ≤ (s.size : Int) by omega)]; rfl
    · have e3 : (if 0 < s.size ∧ bt s 0 = 45 then s.extract 1 s.size else s) = s := if_neg (fun h => h1 h.2)
      rw [e3, decide_eq_false h1, if_neg (by decide)]; rfl
  · have e3 : (if 0 < s.size ∧ bt s 0 = 45 then s.extract 1 s.size else s) = s := if_neg (fun h => h0 h.1)
    rw [e3, if_neg (show ¬ (s.size : Int) ≥ ((1 : Nat) : Int) by omega)]
    rfl
theorem trim_size (s : ByteArray) : (trimD s).size ≤ s.size := by
  unfold trimD
  split
  · rw [ByteArray.size_extract]; omega
  · exact Nat.le_refl _
theorem dig_parse (M : Nat) : ∀ (l : List UInt8) (acc : Nat), (∀ c ∈ l, 48 ≤ c.toNat ∧ c.toNat ≤ 57) → Lib.parseUintM M acc l ≠ .«syntax»
  | [], acc, _ => by simp [Lib.parseUintM]
  | c :: r, acc, h => by
    unfold Lib.parseUintM
    rw [if_pos (h c (List.mem_cons_self ..))]
    split
    · simp
    · split
      · simp
      · exact dig_parse M r _ (fun d hd => h d (List.mem_cons_of_mem _ hd))
theorem bt_get (p : ByteArray) (m : Nat) (h : m < p.data.toList.length) : bt p m = ((p.data.toList[m]'h).toNat : Int) := by
  have h2 : m < p.size := by rw [Array.length_toList] at h; exact h
  rw [← bt_at p (m : Int) (by simpa using h2)]
  rfl
theorem allDig_mem {p : ByteArray} (h : allDig p) : ∀ c ∈ p.data.toList, 48 ≤ c.toNat ∧ c.toNat ≤ 57 := by
  intro c hc
  obtain ⟨m, hm, rfl⟩ := List.getElem_of_mem hc
  have h2 : m < p.size := by rw [Array.length_toList] at hm; exact hm
  have := h m h2
  rw [bt_get p m hm] at this
  omega
theorem trim_data (s : ByteArray) : (trimD s).data.toList = match s.data.toList with
    | [] => []
    | c :: r => if c.toNat = 45 then r else c :: r := by
  unfold trimD
  have hl : s.data.toList.length = s.size := by rw [Array.length_toList]; rfl
  cases hs : s.data.toList with
  | nil => rw [if_neg (by rw [← hl, hs]; simp)]; exact hs
  | cons c r =>
    have h0 : 0 < s.size := by rw [← hl, hs]; simp
    have hb : bt s 0 = (c.toNat : Int) := by
      have h3 := bt_get s 0 (by rw [hl]; exact h0)
      rw [show ((0 : Nat) : Int) = 0 from rfl] at h3
      rw [h3]
      have : s.data.toList[0]'(by rw [hl]; exact h0) = c := by simp [hs]
      rw [this]
    by_cases hc : c.toNat = 45
    · rw [if_pos ⟨h0, by rw [hb]; omega⟩]
      show _ = if c.toNat = 45 then r else c :: r
      rw [if_pos hc, ByteArray.data_extract, Array.toList_extract, hs]
      show (List.drop 1 (c :: r)).take (s.size - 1) = r
      rw [← hl, hs]; simp
    · rw [if_neg (fun h => hc (by have := h.2; rw [hb] at this; omega))]
      show _ = if c.toNat = 45 then r else c :: r
      rw [if_neg hc]; exact hs
theorem no_syntax (s : ByteArray) (h0 : (trimD s).size ≠ 0) (hd : allDig (trimD s)) : Lib.parseIntB 64 s.data.toList ≠ .«syntax» := by
  have hm := allDig_mem hd
  have hne : (trimD s).data.toList ≠ [] := by rw [← toList_data]; exact size_pos_list h0
  rw [trim_data] at hm hne
  cases hs : s.data.toList with
  | nil => rw [hs] at hne; exact absurd rfl hne
  | cons c r =>
    rw [hs] at hm hne
    simp only at hm hne
    unfold Lib.parseIntB
    simp only
    have hl : Lib.parseUintB 64 (if c.toNat = 43 ∨ c.toNat = 45 then r else c :: r) ≠ .«syntax» := by
      by_cases hc : c.toNat = 45
      · rw [if_pos hc] at hm hne
        rw [if_pos (.inr hc)]
        unfold Lib.parseUintB
        rw [if_neg hne]
        exact dig_parse _ _ _ hm
      · rw [if_neg hc] at hm hne
        have := hm c (List.mem_cons_self ..)
        rw [if_neg (by omega)]
        unfold Lib.parseUintB
        rw [if_neg hne]
        exact dig_parse _ _ _ hm
    cases hp : Lib.parseUintB 64 (if c.toNat = 43 ∨ c.toNat = 45 then r else c :: r) with
    | ok u => simp only; split; simp; split; simp; simp
    | «syntax» => exact absurd hp hl
    | range => simp
def num_Parse.f (a0 : ByteArray) : Option (Int × Int) := if a0.size ≤ 140737488353280 then some (parseF a0 (trimD a0)) else none
theorem num_Parse.calls (a0 : ByteArray) (r1 r2 : Int) (w : World) (hL : Laid w) (h : num_Parse.f a0 = some (r1, r2)) :
    Calls Tryd.prog 32 #[.string a0] w fun e w' => e = .returned (.tuple #[.int .i64 r1, .int .i64 r2]) ∧ Below w.heap.size w w' := by
  unfold num_Parse.f at h
  by_cases hs : a0.size ≤ 140737488353280
  · rw [if_pos hs] at h
    have h2 : parseF a0 (trimD a0) = (r1, r2) := Option.some.inj h
    have := parse_any a0 (trimD a0) w hL hs (trim_size a0) (trim_eq a0) (fun h0 hd => no_syntax a0 h0 hd)
    rw [h2] at this
    exact this
  · rw [if_neg hs] at h; cases h
end Go.Proofs.YtlbaejihlcfpeaaDoor.G
end
