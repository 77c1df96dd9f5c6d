import Derived.WalkKit
import Derived.WalkLawsBesides
import Derived.Deep.RegionLaw
import Derived.Deep.Cut
import Derived.WalkSpells
import Derived.Recover
import Derived.Laws.Bits64b
import Derived.Test.YtkkgbbfojmnopaaPKnE1
set_option linter.unusedVariables false
set_option linter.unusedSimpArgs false
section
namespace Go.Proofs.Ytkkgbbfojmnopaa.G
open Go.RowKit Go.Proofs.YtkkgbbfojmnopaaW.PrintWords Go.Proofs.YtkkgbbfojmnopaaW.PrintLast Go.Proofs.YtkkgbbfojmnopaaW.PrintMore
set_option linter.unusedVariables false
set_option linter.unusedSimpArgs false
theorem andNot_all : ∀ b : Fin 256, bits .andNot .u8 (b.val : Int) 128 = ((b.val % 128 : Nat) : Int) := by decide +kernel
theorem wrap_u64 (n : Nat) : IntKind.u64.wrap (n : Int) = ((n % 2 ^ 64 : Nat) : Int) := by
  unfold IntKind.wrap
  simp [IntKind.signed, IntKind.bits]
theorem step_bits (b : UInt8) (acc i : Nat) (ha : acc < 2 ^ 64) : bits .or .u64 (acc : Int) (IntKind.u64.wrap (IntKind.u64.wrap (bits .andNot .u8 (b.toNat : Int) 128) * 2 ^ (7 * i))) = ((acc ||| ((b.toNat % 128) <<< (7 * i)) % 2 ^ 64 : Nat) : Int) := by
  have h1 := andNot_all ⟨b.toNat, b.toNat_lt⟩
  simp only at h1
  rw [h1, wrap_u64, Nat.mod_eq_of_lt (show b.toNat % 128 < 2 ^ 64 by have : b.toNat % 128 < 128 := Nat.mod_lt _ (by decide); omega)]
  rw [show ((b.toNat % 128 : Nat) : Int) * 2 ^ (7 * i) = ((b.toNat % 128 * 2 ^ (7 * i) : Nat) : Int) by push_cast; rfl, wrap_u64, Nat.shiftLeft_eq]
  exact bits_or_u64_nat acc _ (by omega) (by have := Nat.mod_lt (b.toNat % 128 * 2 ^ (7 * i)) (show 0 < 2 ^ 64 from Nat.pow_pos (by decide)); omega)
theorem small_shift {c i : Nat} (hc : c < 128) (hi : i < 9) : c * 2 ^ (7 * i) < 2 ^ 64 := by
  have h1 : 2 ^ (7 * i) ≤ 2 ^ 56 := Nat.pow_le_pow_right (by decide) (by omega)
  have h2 : c * 2 ^ (7 * i) ≤ 127 * 2 ^ 56 := Nat.mul_le_mul (by omega) h1
  exact Nat.lt_of_le_of_lt h2 (by decide)
theorem or_place {acc c i : Nat} (ha : acc < 2 ^ (7 * i)) (hc : c * 2 ^ (7 * i) < 2 ^ 64) : (acc ||| (c <<< (7 * i)) % 2 ^ 64) = acc + c * 2 ^ (7 * i) := by
  rw [Nat.shiftLeft_eq, Nat.mod_eq_of_lt hc, Nat.or_comm, Nat.mul_comm c, ← Nat.two_pow_add_eq_or_of_lt ha, Nat.add_comm]
def NumR (p : Nat) (l : List UInt8) (w : World) (e : Ending) (w' : World) : Prop := match number l with | some (n, r) => ∃ s' : ByteArray, s'.data.toList = r ∧ e = .returned (.int .u64 n) ∧ w' = w.setCell ⟨p, 0, none⟩ (.string s') | none => e = .panicked wrongP ∧ w' = w
theorem NumR.no {p : Nat} {l : List UInt8} {w : World} (h : number l = none) : NumR p l w (.panicked wrongP) w := by unfold NumR; rw [h]; exact ⟨rfl, rfl⟩
theorem NumR.yes {p : Nat} {l : List UInt8} {w : World} {n : Nat} {r : List UInt8} {s' : ByteArray} (h : number l = some (n, r)) (hs : s'.data.toList = r) : NumR p l w (.returned (.int .u64 n)) (w.setCell ⟨p, 0, none⟩ (.string s')) := by unfold NumR; rw [h]; exact ⟨s', hs, rfl, rfl⟩
theorem extract_drop {s : ByteArray} {l : List UInt8} (hs : s.data.toList = l) (k : Nat) : (s.extract k l.length).data.toList = l.drop k := by
  subst hs
  simp
  rw [List.take_of_length_le]
  rw [List.length_drop, Array.length_toList]
  exact Nat.le_refl _
set_option maxHeartbeats 2000000 in
theorem number_any (p : Nat) (s : ByteArray) (l : List UInt8) (w : World) (hc : w.heap[p]? = some (.cells #[.string s] 63 (0, 0))) (hs : s.data.toList = l) (hl : l.length ≤ 10000000) :
    Calls Try.prog 69 #[.pointer (some ⟨p, 0, none⟩)] w fun e w' => NumR p l w e w' := by
  have t0 : w.cell? ⟨p, 0, none⟩ = some (.string s) := (blk_cell hc 0).trans rfl
  have f0 : w.frozen? ⟨p, 0, none⟩ = false := blk_frozen hc 0
  have hsl : s.size = l.length := by rw [← hs, Array.length_toList]; rfl
  have HS := Aside0.mk hs
  clear hc hs
  go_enter Try.func69, Try.ntmps69
  go_wp2_with fail
  go_loopw [3, 6] (fun v3 v6 wr => w = wr ∧ ∃ i acc : Nat, v6 = .int .i64 (i : Int) ∧ v3 = .int .u64 (acc : Int) ∧ i ≤ 9 ∧ Aside0 (numGo (9 - i) i acc (l.drop i) = number l) ∧ Aside0 (acc < 2 ^ (7 * i))) (fun _ v6 _ => 10 - (intOf v6).toNat)
  case atStart => exact ⟨rfl, 0, 0, rfl, rfl, by omega, Aside0.mk rfl, Aside0.mk (by decide)⟩
  case round =>
    obtain ⟨rfl, i, acc, rfl, rfl, hi, HN, HA⟩ := hrel
    have h10 : (i : Int) < 10 := by omega
    by_cases hlt : i < l.length
    · have hlt' : (i : Int) < (s.size : Int) := by omega
      have hlt2 : i < s.size := by omega
      obtain ⟨b, hb⟩ : ∃ b, s[i]'hlt2 = b := ⟨_, rfl⟩
      go_wp2_with fail
      refine (need_any true w).mono ?_
      rintro e w2 ⟨rfl, rfl⟩
      go_upto_region 7 with (fail)
      go_cut [3] from 60 (fun v3 wx => v3 = .int .u64 ((acc ||| ((b.toNat % 128) <<< (7 * i)) % 2 ^ 64 : Nat) : Int) ∧ wx = w2)
      case first =>
        go_wp2_with fail
        go_meet
        case rel => exact ⟨congrArg _ (step_bits b acc i (Nat.lt_of_lt_of_le HA.out (Nat.pow_le_pow_right (by decide) (by omega)))), rfl⟩
      case rest =>
        obtain ⟨rfl, rfl⟩ := hcut
        have HD := Aside0.mk (show l.drop i = b :: l.drop (i + 1) by
          rw [List.drop_eq_getElem_cons hlt]
          congr 1
          rw [← hb]
          have hs := HS.out
          subst hs
          rfl)
        obtain ⟨V, hV⟩ : ∃ V, V = acc ||| ((b.toNat % 128) <<< (7 * i)) % 2 ^ 64 := ⟨_, rfl⟩
        rw [← hV]
        have HV := Aside0.mk hV
        clear hV hb
        have hb2 : b.toNat < 256 := b.toNat_lt
        by_cases h9 : i = 9
        · have h9i : (i : Int) = 9 := by omega
          rw [h9i]
          have H9 := Aside0.mk h9
          clear h9 hi h10 h9i hlt' hlt hlt2
          obtain ⟨c, hc⟩ : ∃ c : Int, (b.toNat : Int) = c := ⟨_, rfl⟩
          rw [hc]
          have HC := Aside0.mk hc
          clear hc hb2
          have HNN : Aside0 (number l = if 0 < b.toNat ∧ b.toNat ≤ 1 then some (acc + b.toNat * 2 ^ (7 * i), l.drop (i + 1)) else none) := Aside0.mk (by rw [← HN.out, HD.out, H9.out]; rfl)
          by_cases hb1 : c ≤ 1
          · by_cases h0 : 0 < c
            · go_wp2_with fail
              refine (need_any true _).mono ?_
              rintro e w3 ⟨rfl, rfl⟩
              go_wp2_with fail
              refine (need_any true _).mono ?_
              rintro e w4 ⟨rfl, rfl⟩
              have hnine : i = 9 := H9.out
              have hlt9 : 9 < l.length := by have := congrArg List.length HD.out; simp at this; omega
              have hs9 : (9 : Int) + 1 ≤ (s.size : Int) := by omega
              go_wp2_with fail
              go_ret
              have hc1 : b.toNat = 1 := by have := HC.out; omega
              have hVV : V = acc + b.toNat * 2 ^ (7 * i) := by rw [HV.out, show b.toNat % 128 = b.toNat by omega]; exact or_place HA.out (by rw [hc1, hnine]; decide)
              have hnum : number l = some (V, l.drop 10) := by rw [HNN.out, if_pos ⟨by omega, by omega⟩, hVV, hnine]
              exact NumR.yes hnum (extract_drop HS.out 10)
            · have hz : number l = none := by rw [HNN.out, if_neg (by have := HC.out; omega)]
              go_wp2_with fail
              refine (need_any true _).mono ?_
              rintro e w3 ⟨rfl, rfl⟩
              go_wp2_with fail
              refine (need_any _ _).mono ?_
              rintro e w4 ⟨rfl, he⟩
              rw [decide_eq_false (by omega), if_neg (by decide)] at he
              subst he
              exact ⟨rfl, NumR.no hz⟩
          · have hz : number l = none := by rw [HNN.out, if_neg (by have := HC.out; omega)]
            go_wp2_with fail
            refine (need_any false _).mono ?_
            rintro e w3 ⟨rfl, rfl⟩
            exact ⟨rfl, NumR.no hz⟩
        · have h9' : ¬ (i : Int) = 9 := by omega
          obtain ⟨f, hf⟩ : ∃ f, 9 - i = f + 1 := ⟨8 - i, by omega⟩
          have HNN : Aside0 (number l = if b.toNat < 128 then (if 0 < b.toNat ∨ i = 0 then some (acc + b.toNat * 2 ^ (7 * i), l.drop (i + 1)) else none) else numGo f (i + 1) (acc + (b.toNat - 128) * 2 ^ (7 * i)) (l.drop (i + 1))) := Aside0.mk (by rw [← HN.out, HD.out, hf]; rfl)
          have HF := Aside0.mk hf
          clear hf
          obtain ⟨c, hc⟩ : ∃ c : Int, (b.toNat : Int) = c := ⟨_, rfl⟩
          rw [hc]
          have HC := Aside0.mk hc
          clear hc hb2
          by_cases hb1 : c < 128
          · by_cases h0 : 0 < c
            · have hnum : number l = some (V, l.drop (i + 1)) := by
                rw [HNN.out, if_pos (by have := HC.out; omega), if_pos (.inl (by have := HC.out; omega)), HV.out, show b.toNat % 128 = b.toNat by have := HC.out; omega]
                rw [or_place HA.out (small_shift (by have := HC.out; omega) (by omega))]
              go_wp2_with fail
              refine (need_any true _).mono ?_
              rintro e w4 ⟨rfl, rfl⟩
              have hs9 : (i : Int) + 1 ≤ (s.size : Int) := by omega
              go_wp2_with fail
              go_ret
              exact NumR.yes hnum (extract_drop HS.out (i + 1))
            · by_cases hi0 : (i : Int) = 0
              · have hnum : number l = some (V, l.drop (i + 1)) := by
                  rw [HNN.out, if_pos (by have := HC.out; omega), if_pos (.inr (by omega)), HV.out, show b.toNat % 128 = b.toNat by have := HC.out; omega]
                  rw [or_place HA.out (small_shift (by have := HC.out; omega) (by omega))]
                go_wp2_with fail
                refine (need_any true _).mono ?_
                rintro e w4 ⟨rfl, rfl⟩
                have hs9 : (i : Int) + 1 ≤ (s.size : Int) := by omega
                go_wp2_with fail
                go_ret
                exact NumR.yes (r := l.drop 1) (by rw [hnum, show i + 1 = 1 by omega]) (extract_drop HS.out 1)
              · have hz : number l = none := by rw [HNN.out, if_pos (by have := HC.out; omega), if_neg (by have := HC.out; omega)]
                go_wp2_with fail
                refine (need_any _ _).mono ?_
                rintro e w4 ⟨rfl, he⟩
                rw [show ((i : Int) == 0) = false by simpa using hi0, if_neg (by decide)] at he
                subst he
                exact ⟨rfl, NumR.no hz⟩
          · go_wp2_with fail
            go_roundw
            case rel =>
              refine ⟨trivial, i + 1, V, by simp, rfl, by omega, Aside0.mk ?_, Aside0.mk ?_⟩
              · rw [HNN.out, if_neg (by have := HC.out; omega), show 9 - (i + 1) = f by have := HF.out; omega, HV.out, or_place HA.out (small_shift (Nat.mod_lt _ (by decide)) (by omega)), show b.toNat % 128 = b.toNat - 128 by have := HC.out; have := b.toNat_lt; omega]
              · rw [HV.out, or_place HA.out (small_shift (Nat.mod_lt _ (by decide)) (by omega)), pow7]
                have h1 := HA.out
                have h2 : b.toNat % 128 ≤ 127 := by omega
                have h3 : b.toNat % 128 * 2 ^ (7 * i) ≤ 127 * 2 ^ (7 * i) := Nat.mul_le_mul_right _ h2
                omega
            case measure => simp [intOf]; omega
    · have hlt' : ¬ (i : Int) < (s.size : Int) := by omega
      have hz : number l = none := by rw [← HN.out, List.drop_eq_nil_of_le (by omega)]; cases (9 - i) <;> rfl
      go_wp2_with fail
      refine (need_any false w).mono ?_
      rintro e w2 ⟨rfl, rfl⟩
      exact ⟨rfl, NumR.no hz⟩
end Go.Proofs.Ytkkgbbfojmnopaa.G
end
