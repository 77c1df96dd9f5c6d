import Derived.Test.YtdniemdjoipbiaaHb
namespace Go.Proofs.Ytdniemdjoipbiaa.H
open Go.RowKit
set_option maxHeartbeats 1000000 in
theorem rname_any (n : Int) (w : World) (r : ByteArray) (hr : tabS kindL n = r) : Calls Try.prog 20 #[.int .i64 n] w fun e w' => OneS r w e w' := by
  subst hr
  by_cases h0 : n < 0
  · have hm : tabS kindL n = ⟨#[]⟩ := by simp [tabS, h0]
    rw [hm]; clear hm
    go_enter Try.func20, Try.ntmps20
    go_wp2_with fail
    go_ret
    exact ⟨rfl, (Below.refl _ _).alloc (Nat.le_refl _) _⟩
  by_cases h9 : 9 < n
  · have hm : tabS kindL n = ⟨#[]⟩ := by
      simp only [tabS, if_neg h0]
      rw [List.getD_eq_getElem?_getD, List.getElem?_eq_none (by simp [kindL]; omega)]; rfl
    rw [hm]; clear hm
    go_enter Try.func20, Try.ntmps20
    go_wp2_with fail
    go_ret
    exact ⟨rfl, (Below.refl _ _).alloc (Nat.le_refl _) _⟩
  have hc : n = 0 ∨ n = 1 ∨ n = 2 ∨ n = 3 ∨ n = 4 ∨ n = 5 ∨ n = 6 ∨ n = 7 ∨ n = 8 ∨ n = 9 := by omega
  clear h0 h9
  rcases hc with rfl | rfl | rfl | rfl | rfl | rfl | rfl | rfl | rfl | rfl
  all_goals
    go_enter Try.func20, Try.ntmps20
    go_wp2_with fail
    go_ret
    exact ⟨rfl, (Below.refl _ _).alloc (Nat.le_refl _) _⟩
set_option maxHeartbeats 1000000 in
theorem rlib_any (n : Int) (w : World) (r : ByteArray) (hr : tabS libL n = r) : Calls Try.prog 22 #[.int .i64 n] w fun e w' => OneS r w e w' := by
  subst hr
  by_cases h0 : n < 0
  · have hm : tabS libL n = ⟨#[]⟩ := by simp [tabS, h0]
    rw [hm]; clear hm
    go_enter Try.func22, Try.ntmps22
    go_wp2_with fail
    go_ret
    exact ⟨rfl, (Below.refl _ _).alloc (Nat.le_refl _) _⟩
  by_cases h9 : 12 < n
  · have hm : tabS libL n = ⟨#[]⟩ := by
      simp only [tabS, if_neg h0]
      rw [List.getD_eq_getElem?_getD, List.getElem?_eq_none (by simp [libL]; omega)]; rfl
    rw [hm]; clear hm
    go_enter Try.func22, Try.ntmps22
    go_wp2_with fail
    go_ret
    exact ⟨rfl, (Below.refl _ _).alloc (Nat.le_refl _) _⟩
  have hc : n = 0 ∨ n = 1 ∨ n = 2 ∨ n = 3 ∨ n = 4 ∨ n = 5 ∨ n = 6 ∨ n = 7 ∨ n = 8 ∨ n = 9 ∨ n = 10 ∨ n = 11 ∨ n = 12 := by omega
  clear h0 h9
  rcases hc with rfl | rfl | rfl | rfl | rfl | rfl | rfl | rfl | rfl | rfl | rfl | rfl | rfl
  all_goals
    go_enter Try.func22, Try.ntmps22
    go_wp2_with fail
    go_ret
    exact ⟨rfl, (Below.refl _ _).alloc (Nat.le_refl _) _⟩
end Go.Proofs.Ytdniemdjoipbiaa.H
