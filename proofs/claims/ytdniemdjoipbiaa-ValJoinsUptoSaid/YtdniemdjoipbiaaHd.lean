import Derived.Test.YtdniemdjoipbiaaHb
import Derived.Lib.Hide
namespace Go.Proofs.Ytdniemdjoipbiaa.H
open Go.RowKit

def OneI (r : Int) (w : World) (e : Ending) (w' : World) : Prop := e = .returned (.int .i64 r) ∧ Below w.heap.size w w'
def firstOf : List ByteArray → Int → ByteArray → Int
  | [], _, _ => -1
  | x :: l, i, s => if x.toList = s.toList then i else firstOf l (i + 1) s
def NotBelow (l : List ByteArray) (s : ByteArray) (k : Nat) : Prop := ∀ j, j < k → (l.getD j ⟨#[]⟩).toList ≠ s.toList
theorem firstOf_at (s : ByteArray) : ∀ (l : List ByteArray) (i : Int) (k : Nat), k < l.length → NotBelow l s k → (l.getD k ⟨#[]⟩).toList = s.toList → firstOf l i s = i + k
  | [], _, k, h, _, _ => by simp at h
  | x :: l, i, 0, _, _, e => by
    have e' : x.toList = s.toList := e
    simp [firstOf, e']
  | x :: l, i, k + 1, h, hn, e => by
    have h0 : x.toList ≠ s.toList := hn 0 (by omega)
    rw [firstOf, if_neg h0, firstOf_at s l (i + 1) k (by simpa using h) (fun j hj => hn (j + 1) (by omega)) e]
    omega
theorem firstOf_none (s : ByteArray) : ∀ (l : List ByteArray) (i : Int), NotBelow l s l.length → firstOf l i s = -1
  | [], _, _ => rfl
  | x :: l, i, hn => by
    have h0 : x.toList ≠ s.toList := hn 0 (by simp)
    rw [firstOf, if_neg h0, firstOf_none s l (i + 1) (fun j hj => hn (j + 1) (by simpa using hj))]
theorem NotBelow.succ {l : List ByteArray} {s : ByteArray} {k : Nat} (hn : NotBelow l s k) (h : (l.getD k ⟨#[]⟩).toList ≠ s.toList) : NotBelow l s (k + 1) := fun j hj => by
  rcases (by omega : j < k ∨ j = k) with h' | rfl
  · exact hn j h'
  · exact h

set_option maxHeartbeats 4000000 in
theorem libof_any (s : ByteArray) (w : World) (r : Int) (hr : firstOf libL 0 s = r) : Calls Try.prog 23 #[.string s] w fun e w' => OneI r w e w' := by
  have HR := Lib.hid hr
  clear hr
  go_enter Try.func23, Try.ntmps23
  go_wp2_with ((with_reducible refine (libs_any _).mono ?_); rintro e w1 ⟨rfl, hb⟩)
  go_loop [6] (fun i => ∃ k : Nat, k ≤ 13 ∧ i = .int .i64 k ∧ NotBelow libL s k) (fun i => 13 - (intOf i).toNat)
  case atStart => exact ⟨0, by omega, rfl, fun j hj => by omega⟩
  case round =>
    obtain ⟨k, hk, rfl, hn0⟩ := hrel
    have hn := Lib.hid hn0
    clear hn0
    rcases (by omega : k = 0 ∨ k = 1 ∨ k = 2 ∨ k = 3 ∨ k = 4 ∨ k = 5 ∨ k = 6 ∨ k = 7 ∨ k = 8 ∨ k = 9 ∨ k = 10 ∨ k = 11 ∨ k = 12 ∨ k = 13) with rfl | rfl | rfl | rfl | rfl | rfl | rfl | rfl | rfl | rfl | rfl | rfl | rfl | rfl
    · go_wp2_with fail
      · have he : (([111, 117, 116] : List UInt8) == s.toList) = true := by assumption
        go_ret
        have := (firstOf_at s libL 0 0 (by decide) hn.out ((ByteArray.toList_mk [111, 117, 116]).trans (eq_of_beq he))).symm.trans HR.out
        subst this
        exact ⟨rfl, hb.alloc (by have := hb.size; omega) _⟩
      · have he : (([111, 117, 116] : List UInt8) == s.toList) = false := by assumption
        go_round
        case rel => exact ⟨1, by omega, rfl, hn.out.succ (fun h => ne_of_beq_false he ((ByteArray.toList_mk [111, 117, 116]).symm.trans h))⟩
        case measure => simp [intOf]
    · go_wp2_with fail
      · have he : (([101, 114, 114, 111, 114] : List UInt8) == s.toList) = true := by assumption
        go_ret
        have := (firstOf_at s libL 0 1 (by decide) hn.out ((ByteArray.toList_mk [101, 114, 114, 111, 114]).trans (eq_of_beq he))).symm.trans HR.out
        subst this
        exact ⟨rfl, hb.alloc (by have := hb.size; omega) _⟩
      · have he : (([101, 114, 114, 111, 114] : List UInt8) == s.toList) = false := by assumption
        go_round
        case rel => exact ⟨2, by omega, rfl, hn.out.succ (fun h => ne_of_beq_false he ((ByteArray.toList_mk [101, 114, 114, 111, 114]).symm.trans h))⟩
        case measure => simp [intOf]
    · go_wp2_with fail
      · have he : (([116, 121, 112, 101] : List UInt8) == s.toList) = true := by assumption
        go_ret
        have := (firstOf_at s libL 0 2 (by decide) hn.out ((ByteArray.toList_mk [116, 121, 112, 101]).trans (eq_of_beq he))).symm.trans HR.out
        subst this
        exact ⟨rfl, hb.alloc (by have := hb.size; omega) _⟩
      · have he : (([116, 121, 112, 101] : List UInt8) == s.toList) = false := by assumption
        go_round
        case rel => exact ⟨3, by omega, rfl, hn.out.succ (fun h => ne_of_beq_false he ((ByteArray.toList_mk [116, 121, 112, 101]).symm.trans h))⟩
        case measure => simp [intOf]
    · go_wp2_with fail
      · have he : (([115, 101, 116, 109, 101, 116, 97] : List UInt8) == s.toList) = true := by assumption
        go_ret
        have := (firstOf_at s libL 0 3 (by decide) hn.out ((ByteArray.toList_mk [115, 101, 116, 109, 101, 116, 97]).trans (eq_of_beq he))).symm.trans HR.out
        subst this
        exact ⟨rfl, hb.alloc (by have := hb.size; omega) _⟩
      · have he : (([115, 101, 116, 109, 101, 116, 97] : List UInt8) == s.toList) = false := by assumption
        go_round
        case rel => exact ⟨4, by omega, rfl, hn.out.succ (fun h => ne_of_beq_false he ((ByteArray.toList_mk [115, 101, 116, 109, 101, 116, 97]).symm.trans h))⟩
        case measure => simp [intOf]
    · go_wp2_with fail
      · have he : (([103, 101, 116, 109, 101, 116, 97] : List UInt8) == s.toList) = true := by assumption
        go_ret
        have := (firstOf_at s libL 0 4 (by decide) hn.out ((ByteArray.toList_mk [103, 101, 116, 109, 101, 116, 97]).trans (eq_of_beq he))).symm.trans HR.out
        subst this
        exact ⟨rfl, hb.alloc (by have := hb.size; omega) _⟩
      · have he : (([103, 101, 116, 109, 101, 116, 97] : List UInt8) == s.toList) = false := by assumption
        go_round
        case rel => exact ⟨5, by omega, rfl, hn.out.succ (fun h => ne_of_beq_false he ((ByteArray.toList_mk [103, 101, 116, 109, 101, 116, 97]).symm.trans h))⟩
        case measure => simp [intOf]
    · go_wp2_with fail
      · have he : (([114, 97, 119, 103, 101, 116] : List UInt8) == s.toList) = true := by assumption
        go_ret
        have := (firstOf_at s libL 0 5 (by decide) hn.out ((ByteArray.toList_mk [114, 97, 119, 103, 101, 116]).trans (eq_of_beq he))).symm.trans HR.out
        subst this
        exact ⟨rfl, hb.alloc (by have := hb.size; omega) _⟩
      · have he : (([114, 97, 119, 103, 101, 116] : List UInt8) == s.toList) = false := by assumption
        go_round
        case rel => exact ⟨6, by omega, rfl, hn.out.succ (fun h => ne_of_beq_false he ((ByteArray.toList_mk [114, 97, 119, 103, 101, 116]).symm.trans h))⟩
        case measure => simp [intOf]
    · go_wp2_with fail
      · have he : (([114, 97, 119, 115, 101, 116] : List UInt8) == s.toList) = true := by assumption
        go_ret
        have := (firstOf_at s libL 0 6 (by decide) hn.out ((ByteArray.toList_mk [114, 97, 119, 115, 101, 116]).trans (eq_of_beq he))).symm.trans HR.out
        subst this
        exact ⟨rfl, hb.alloc (by have := hb.size; omega) _⟩
      · have he : (([114, 97, 119, 115, 101, 116] : List UInt8) == s.toList) = false := by assumption
        go_round
        case rel => exact ⟨7, by omega, rfl, hn.out.succ (fun h => ne_of_beq_false he ((ByteArray.toList_mk [114, 97, 119, 115, 101, 116]).symm.trans h))⟩
        case measure => simp [intOf]
    · go_wp2_with fail
      · have he : (([110, 101, 120, 116] : List UInt8) == s.toList) = true := by assumption
        go_ret
        have := (firstOf_at s libL 0 7 (by decide) hn.out ((ByteArray.toList_mk [110, 101, 120, 116]).trans (eq_of_beq he))).symm.trans HR.out
        subst this
        exact ⟨rfl, hb.alloc (by have := hb.size; omega) _⟩
      · have he : (([110, 101, 120, 116] : List UInt8) == s.toList) = false := by assumption
        go_round
        case rel => exact ⟨8, by omega, rfl, hn.out.succ (fun h => ne_of_beq_false he ((ByteArray.toList_mk [110, 101, 120, 116]).symm.trans h))⟩
        case measure => simp [intOf]
    · go_wp2_with fail
      · have he : (([99, 111, 108, 108, 101, 99, 116] : List UInt8) == s.toList) = true := by assumption
        go_ret
        have := (firstOf_at s libL 0 8 (by decide) hn.out ((ByteArray.toList_mk [99, 111, 108, 108, 101, 99, 116]).trans (eq_of_beq he))).symm.trans HR.out
        subst this
        exact ⟨rfl, hb.alloc (by have := hb.size; omega) _⟩
      · have he : (([99, 111, 108, 108, 101, 99, 116] : List UInt8) == s.toList) = false := by assumption
        go_round
        case rel => exact ⟨9, by omega, rfl, hn.out.succ (fun h => ne_of_beq_false he ((ByteArray.toList_mk [99, 111, 108, 108, 101, 99, 116]).symm.trans h))⟩
        case measure => simp [intOf]
    · go_wp2_with fail
      · have he : (([99, 114, 101, 97, 116, 101] : List UInt8) == s.toList) = true := by assumption
        go_ret
        have := (firstOf_at s libL 0 9 (by decide) hn.out ((ByteArray.toList_mk [99, 114, 101, 97, 116, 101]).trans (eq_of_beq he))).symm.trans HR.out
        subst this
        exact ⟨rfl, hb.alloc (by have := hb.size; omega) _⟩
      · have he : (([99, 114, 101, 97, 116, 101] : List UInt8) == s.toList) = false := by assumption
        go_round
        case rel => exact ⟨10, by omega, rfl, hn.out.succ (fun h => ne_of_beq_false he ((ByteArray.toList_mk [99, 114, 101, 97, 116, 101]).symm.trans h))⟩
        case measure => simp [intOf]
    · go_wp2_with fail
      · have he : (([114, 101, 115, 117, 109, 101] : List UInt8) == s.toList) = true := by assumption
        go_ret
        have := (firstOf_at s libL 0 10 (by decide) hn.out ((ByteArray.toList_mk [114, 101, 115, 117, 109, 101]).trans (eq_of_beq he))).symm.trans HR.out
        subst this
        exact ⟨rfl, hb.alloc (by have := hb.size; omega) _⟩
      · have he : (([114, 101, 115, 117, 109, 101] : List UInt8) == s.toList) = false := by assumption
        go_round
        case rel => exact ⟨11, by omega, rfl, hn.out.succ (fun h => ne_of_beq_false he ((ByteArray.toList_mk [114, 101, 115, 117, 109, 101]).symm.trans h))⟩
        case measure => simp [intOf]
    · go_wp2_with fail
      · have he : (([121, 105, 101, 108, 100] : List UInt8) == s.toList) = true := by assumption
        go_ret
        have := (firstOf_at s libL 0 11 (by decide) hn.out ((ByteArray.toList_mk [121, 105, 101, 108, 100]).trans (eq_of_beq he))).symm.trans HR.out
        subst this
        exact ⟨rfl, hb.alloc (by have := hb.size; omega) _⟩
      · have he : (([121, 105, 101, 108, 100] : List UInt8) == s.toList) = false := by assumption
        go_round
        case rel => exact ⟨12, by omega, rfl, hn.out.succ (fun h => ne_of_beq_false he ((ByteArray.toList_mk [121, 105, 101, 108, 100]).symm.trans h))⟩
        case measure => simp [intOf]
    · go_wp2_with fail
      · have he : (([115, 116, 97, 116, 117, 115] : List UInt8) == s.toList) = true := by assumption
        go_ret
        have := (firstOf_at s libL 0 12 (by decide) hn.out ((ByteArray.toList_mk [115, 116, 97, 116, 117, 115]).trans (eq_of_beq he))).symm.trans HR.out
        subst this
        exact ⟨rfl, hb.alloc (by have := hb.size; omega) _⟩
      · have he : (([115, 116, 97, 116, 117, 115] : List UInt8) == s.toList) = false := by assumption
        go_round
        case rel => exact ⟨13, by omega, rfl, hn.out.succ (fun h => ne_of_beq_false he ((ByteArray.toList_mk [115, 116, 97, 116, 117, 115]).symm.trans h))⟩
        case measure => simp [intOf]
    · go_wp2_with fail
      go_ret
      have := (firstOf_none s libL 0 hn.out).symm.trans HR.out
      subst this
      exact ⟨rfl, hb.alloc (by have := hb.size; omega) _⟩
end Go.Proofs.Ytdniemdjoipbiaa.H
