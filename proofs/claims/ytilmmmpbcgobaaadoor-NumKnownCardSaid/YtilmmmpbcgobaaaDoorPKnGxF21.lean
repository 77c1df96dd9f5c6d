import Derived.Test.YtilmmmpbcgobaaaDoorPKnShelf2
import Derived.Test.YtilmmmpbcgobaaaDoorPKnGx0
set_option linter.unusedVariables false
set_option linter.unusedSimpArgs false
section
namespace Go.Proofs.YtilmmmpbcgobaaaDoor.G
open Go.RowKit Go.Proofs.YtilmmmpbcgobaaaDoorW.PrintWords Go.Proofs.YtilmmmpbcgobaaaDoorW.PrintLast Go.Proofs.YtilmmmpbcgobaaaDoorW.PrintMore
attribute [local go_sem] max2_int min2_int max_two min_two max_three min_three max_four min_four
set_option linter.unusedVariables false
set_option linter.unusedSimpArgs false
structure LaidS (w : World) : Prop extends Laid w where
  spc : Lib.TabIs Tryd.prog w "strings.asciiSpace" .u8 Lib.asciiSpaceTab
theorem LaidS.below {w w' : World} (hb : Below w.heap.size w w') (h : LaidS w) : LaidS w' := ⟨Laid.below hb h.toLaid, var_below hb h.spc⟩
def signsL : List ByteArray := [⟨#[43]⟩, ⟨#[45]⟩, ⟨#[42]⟩, ⟨#[47, 47]⟩, ⟨#[37]⟩, ⟨#[38]⟩, ⟨#[124]⟩, ⟨#[126]⟩, ⟨#[60, 60]⟩, ⟨#[62, 62]⟩]
def signsV : Array Value := #[.string ⟨#[43]⟩, .string ⟨#[45]⟩, .string ⟨#[42]⟩, .string ⟨#[47, 47]⟩, .string ⟨#[37]⟩, .string ⟨#[38]⟩, .string ⟨#[124]⟩, .string ⟨#[126]⟩, .string ⟨#[60, 60]⟩, .string ⟨#[62, 62]⟩]
abbrev signsS : ByteArray := ⟨#[43, 32, 45, 32, 42, 32, 47, 47, 32, 37, 32, 38, 32, 124, 32, 126, 32, 60, 60, 32, 62, 62]⟩
theorem signs_fields : ((Lib.fields signsS.data.toList).map fun l => Value.string ⟨l.toArray⟩).toArray = signsV := by kernel_rfl
theorem signs_len : (Lib.fields signsS.data.toList).length = 10 := by kernel_rfl
theorem signs_ascii : ∀ (j : Nat) (b : UInt8), signsS.data.toList[j]? = some b → b.toNat < 128 := fun j b h => by
  have hall : ∀ b ∈ signsS.data.toList, b.toNat < 128 := by decide
  exact hall b (List.mem_of_getElem? h)
theorem signsV_at (k : Nat) (s : ByteArray) (h : signsL[k]? = some s) : signsV[k]? = some (.string s) := by
  have e : signsV = (signsL.map Value.string).toArray := by rfl
  rw [e, List.getElem?_toArray, List.getElem?_map, h]; rfl
theorem fields_any (w : World) (hT : Lib.TabIs Tryd.prog w "strings.asciiSpace" .u8 Lib.asciiSpaceTab) :
    Calls Tryd.prog 58 #[.string signsS] w fun e w' => ∃ b, e = .returned (.slice (some ⟨b, 0, none⟩) 10 10) ∧ Below w.heap.size w w' ∧ w'.heap[b]? = some (.cells signsV 9 (0, 0)) := by
  refine (Tryd.strings_Fields signsS w (by decide) signs_ascii hT).mono ?_
  rintro e w' ⟨rfl, rfl⟩
  rw [signs_len, signs_fields]
  exact ⟨w.heap.size, rfl, below_alloc (Below.refl _ _) _, blk_new _ _⟩
set_option maxHeartbeats 4000000 in
set_option maxRecDepth 100000 in
theorem signs_any (w : World) (hT : Lib.TabIs Tryd.prog w "strings.asciiSpace" .u8 Lib.asciiSpaceTab) :
    Calls Tryd.prog 37 #[] w fun e w' => ∃ b, e = .returned (.slice (some ⟨b, 0, none⟩) 10 10) ∧ Below w.heap.size w w' ∧ w'.heap[b]? = some (.cells signsV 9 (0, 0)) := by
  have HT := Aside0.mk hT
  clear hT
  go_enter Tryd.func37, Tryd.ntmps37
  go_wp2_with fail
  refine (fields_any _ HT.out).mono ?_
  rintro e w' ⟨b, rfl, hb, hk⟩
  have HK := Aside0.mk hk
  have HB := Aside0.mk hb
  clear hk hb
  go_wp2_with fail
  go_ret
  exact ⟨b, rfl, HB.out, HK.out⟩
def num_Sign.f (a0 : Int) : Option ByteArray := if a0 < 0 ∨ 9 < a0 then some ⟨#[]⟩ else signsL[a0.toNat]?
set_option maxHeartbeats 4000000 in
set_option maxRecDepth 100000 in
theorem num_Sign.calls (a0 : Int) (r : ByteArray) (w : World) (hL : LaidS w) (h : num_Sign.f a0 = some r) :
    Calls Tryd.prog 21 #[.int .i64 a0] w fun e w' => e = .returned (.string r) ∧ Below w.heap.size w w' := by
  have HT := Aside0.mk hL.spc
  clear hL
  unfold num_Sign.f at h
  by_cases h0 : a0 < 0
  · rw [if_pos (.inl h0)] at h
    obtain rfl := Option.some.inj h
    have d0 : decide (a0 < 0) = true := decide_eq_true h0
    clear h0 h
    go_enter Tryd.func21, Tryd.ntmps21
    go_wp2_with fail
    go_ret
    exact ⟨rfl, by repeat (first | exact Below.refl _ _ | apply pw_below_drewN | apply below_drew1)⟩
  · by_cases h9 : 9 < a0
    · rw [if_pos (.inr h9)] at h
      obtain rfl := Option.some.inj h
      have d0 : decide (a0 < 0) = false := decide_eq_false h0
      have d9 : decide (9 < a0) = true := decide_eq_true h9
      clear h0 h h9
      go_enter Tryd.func21, Tryd.ntmps21
      go_wp2_with fail
      go_ret
      exact ⟨rfl, by repeat (first | exact Below.refl _ _ | apply pw_below_drewN | apply below_drew1)⟩
    · rw [if_neg (by omega)] at h
      obtain ⟨k, rfl⟩ : ∃ k : Nat, a0 = k := ⟨a0.toNat, by omega⟩
      rw [Int.toNat_natCast] at h
      have hk : k < 10 := by omega
      have HV := Aside0.mk (signsV_at k r h)
      have d0 : decide ((k : Int) < 0) = false := decide_eq_false h0
      have d9 : decide (9 < (k : Int)) = false := decide_eq_false h9
      clear h h0 h9
      go_enter Tryd.func21, Tryd.ntmps21
      go_wp2_with fail
      refine (signs_any _ HT.out).mono ?_
      rintro e w' ⟨b, rfl, hb, hkb⟩
      have hc : w'.cell? ⟨b, k, none⟩ = some (.string r) := (blk_cell hkb k).trans HV.out
      have HB := Aside0.mk hb
      clear hkb hb
      go_wp2_with fail
      go_ret
      exact ⟨rfl, by repeat (first | exact HB.out | apply pw_below_drewN | apply below_drew1)⟩
end Go.Proofs.YtilmmmpbcgobaaaDoor.G
end
