import Derived.Test.YtdniemdjoipbiaaHa
namespace Go.Proofs.Ytdniemdjoipbiaa.H
open Go.RowKit

def kindL : List ByteArray := [⟨#[110, 111, 110, 101]⟩, ⟨#[110, 105, 108]⟩, ⟨#[98, 111, 111, 108]⟩, ⟨#[105, 110, 116]⟩, ⟨#[98, 117, 105, 108, 116, 105, 110]⟩, ⟨#[115, 116, 114, 105, 110, 103]⟩, ⟨#[116, 97, 98, 108, 101]⟩, ⟨#[102, 117, 110, 99, 116, 105, 111, 110]⟩, ⟨#[99, 111, 114, 111, 117, 116, 105, 110, 101]⟩, ⟨#[99, 101, 108, 108]⟩]
def libL : List ByteArray := [⟨#[111, 117, 116]⟩, ⟨#[101, 114, 114, 111, 114]⟩, ⟨#[116, 121, 112, 101]⟩, ⟨#[115, 101, 116, 109, 101, 116, 97]⟩, ⟨#[103, 101, 116, 109, 101, 116, 97]⟩, ⟨#[114, 97, 119, 103, 101, 116]⟩, ⟨#[114, 97, 119, 115, 101, 116]⟩, ⟨#[110, 101, 120, 116]⟩, ⟨#[99, 111, 108, 108, 101, 99, 116]⟩, ⟨#[99, 114, 101, 97, 116, 101]⟩, ⟨#[114, 101, 115, 117, 109, 101]⟩, ⟨#[121, 105, 101, 108, 100]⟩, ⟨#[115, 116, 97, 116, 117, 115]⟩]
/-- the table's text at a number: beyond it: the empty text -/
def tabS (l : List ByteArray) (n : Int) : ByteArray := if n < 0 then ⟨#[]⟩ else l.getD n.toNat ⟨#[]⟩

def OneS (r : ByteArray) (w : World) (e : Ending) (w' : World) : Prop := e = .returned (.string r) ∧ Below w.heap.size w w'

set_option maxHeartbeats 400000 in
theorem kinds_any (w : World) : Calls Try.prog 30 #[] w fun e w' => e = .returned (.agg #[.string ⟨#[110, 111, 110, 101]⟩, .string ⟨#[110, 105, 108]⟩, .string ⟨#[98, 111, 111, 108]⟩, .string ⟨#[105, 110, 116]⟩, .string ⟨#[98, 117, 105, 108, 116, 105, 110]⟩, .string ⟨#[115, 116, 114, 105, 110, 103]⟩, .string ⟨#[116, 97, 98, 108, 101]⟩, .string ⟨#[102, 117, 110, 99, 116, 105, 111, 110]⟩, .string ⟨#[99, 111, 114, 111, 117, 116, 105, 110, 101]⟩, .string ⟨#[99, 101, 108, 108]⟩]) ∧ Below w.heap.size w w' := by
  go_enter Try.func30, Try.ntmps30
  go_wp2
  refine bodyPost_ret (v := .agg #[.string ⟨#[110, 111, 110, 101]⟩, .string ⟨#[110, 105, 108]⟩, .string ⟨#[98, 111, 111, 108]⟩, .string ⟨#[105, 110, 116]⟩, .string ⟨#[98, 117, 105, 108, 116, 105, 110]⟩, .string ⟨#[115, 116, 114, 105, 110, 103]⟩, .string ⟨#[116, 97, 98, 108, 101]⟩, .string ⟨#[102, 117, 110, 99, 116, 105, 111, 110]⟩, .string ⟨#[99, 111, 114, 111, 117, 116, 105, 110, 101]⟩, .string ⟨#[99, 101, 108, 108]⟩]) (by simp [results, Try.results30, go_sem]) rfl ⟨rfl, ?_⟩
  exact (Below.refl _ _).alloc (Nat.le_refl _) _
set_option maxHeartbeats 400000 in
theorem libs_any (w : World) : Calls Try.prog 31 #[] w fun e w' => e = .returned (.agg #[.string ⟨#[111, 117, 116]⟩, .string ⟨#[101, 114, 114, 111, 114]⟩, .string ⟨#[116, 121, 112, 101]⟩, .string ⟨#[115, 101, 116, 109, 101, 116, 97]⟩, .string ⟨#[103, 101, 116, 109, 101, 116, 97]⟩, .string ⟨#[114, 97, 119, 103, 101, 116]⟩, .string ⟨#[114, 97, 119, 115, 101, 116]⟩, .string ⟨#[110, 101, 120, 116]⟩, .string ⟨#[99, 111, 108, 108, 101, 99, 116]⟩, .string ⟨#[99, 114, 101, 97, 116, 101]⟩, .string ⟨#[114, 101, 115, 117, 109, 101]⟩, .string ⟨#[121, 105, 101, 108, 100]⟩, .string ⟨#[115, 116, 97, 116, 117, 115]⟩]) ∧ Below w.heap.size w w' := by
  go_enter Try.func31, Try.ntmps31
  go_wp2
  refine bodyPost_ret (v := .agg #[.string ⟨#[111, 117, 116]⟩, .string ⟨#[101, 114, 114, 111, 114]⟩, .string ⟨#[116, 121, 112, 101]⟩, .string ⟨#[115, 101, 116, 109, 101, 116, 97]⟩, .string ⟨#[103, 101, 116, 109, 101, 116, 97]⟩, .string ⟨#[114, 97, 119, 103, 101, 116]⟩, .string ⟨#[114, 97, 119, 115, 101, 116]⟩, .string ⟨#[110, 101, 120, 116]⟩, .string ⟨#[99, 111, 108, 108, 101, 99, 116]⟩, .string ⟨#[99, 114, 101, 97, 116, 101]⟩, .string ⟨#[114, 101, 115, 117, 109, 101]⟩, .string ⟨#[121, 105, 101, 108, 100]⟩, .string ⟨#[115, 116, 97, 116, 117, 115]⟩]) (by simp [results, Try.results31, go_sem]) rfl ⟨rfl, ?_⟩
  exact (Below.refl _ _).alloc (Nat.le_refl _) _
set_option maxHeartbeats 1000000 in
theorem name_any (n : Int) (w : World) (r : ByteArray) (hr : tabS kindL n = r) : Calls Try.prog 19 #[.int .i64 n] w fun e w' => OneS r w e w' := by
  subst hr
  by_cases h0 : n < 0
  · have hm : tabS kindL n = ⟨#[]⟩ := by simp [tabS, h0]
    rw [hm]; clear hm
    go_enter Try.func19, Try.ntmps19
    go_wp2_with fail
    go_ret
    exact ⟨rfl, Below.refl _ _⟩
  by_cases h9 : 9 < n
  · have hm : tabS kindL n = ⟨#[]⟩ := by
      simp only [tabS, if_neg h0]
      rw [List.getD_eq_getElem?_getD, List.getElem?_eq_none (by simp [kindL]; omega)]; rfl
    rw [hm]; clear hm
    go_enter Try.func19, Try.ntmps19
    go_wp2_with fail
    go_ret
    exact ⟨rfl, Below.refl _ _⟩
  have hc : n = 0 ∨ n = 1 ∨ n = 2 ∨ n = 3 ∨ n = 4 ∨ n = 5 ∨ n = 6 ∨ n = 7 ∨ n = 8 ∨ n = 9 := by omega
  clear h0 h9
  rcases hc with rfl | rfl | rfl | rfl | rfl | rfl | rfl | rfl | rfl | rfl
  · have hi : ∀ w, (Instr.index 38 (.agg #[.string ⟨#[110, 111, 110, 101]⟩, .string ⟨#[110, 105, 108]⟩, .string ⟨#[98, 111, 111, 108]⟩, .string ⟨#[105, 110, 116]⟩, .string ⟨#[98, 117, 105, 108, 116, 105, 110]⟩, .string ⟨#[115, 116, 114, 105, 110, 103]⟩, .string ⟨#[116, 97, 98, 108, 101]⟩, .string ⟨#[102, 117, 110, 99, 116, 105, 111, 110]⟩, .string ⟨#[99, 111, 114, 111, 117, 116, 105, 110, 101]⟩, .string ⟨#[99, 101, 108, 108]⟩]) (.int .i64 0)).run Try.prog w = .ok (.string (tabS kindL 0)) w := fun _ => by kernel_rfl
    go_enter Try.func19, Try.ntmps19
    go_wp2_with ((with_reducible refine (kinds_any _).mono ?_); rintro e w' ⟨rfl, hb⟩)
    go_ret
    exact ⟨rfl, hb⟩
  · have hi : ∀ w, (Instr.index 38 (.agg #[.string ⟨#[110, 111, 110, 101]⟩, .string ⟨#[110, 105, 108]⟩, .string ⟨#[98, 111, 111, 108]⟩, .string ⟨#[105, 110, 116]⟩, .string ⟨#[98, 117, 105, 108, 116, 105, 110]⟩, .string ⟨#[115, 116, 114, 105, 110, 103]⟩, .string ⟨#[116, 97, 98, 108, 101]⟩, .string ⟨#[102, 117, 110, 99, 116, 105, 111, 110]⟩, .string ⟨#[99, 111, 114, 111, 117, 116, 105, 110, 101]⟩, .string ⟨#[99, 101, 108, 108]⟩]) (.int .i64 1)).run Try.prog w = .ok (.string (tabS kindL 1)) w := fun _ => by kernel_rfl
    go_enter Try.func19, Try.ntmps19
    go_wp2_with ((with_reducible refine (kinds_any _).mono ?_); rintro e w' ⟨rfl, hb⟩)
    go_ret
    exact ⟨rfl, hb⟩
  · have hi : ∀ w, (Instr.index 38 (.agg #[.string ⟨#[110, 111, 110, 101]⟩, .string ⟨#[110, 105, 108]⟩, .string ⟨#[98, 111, 111, 108]⟩, .string ⟨#[105, 110, 116]⟩, .string ⟨#[98, 117, 105, 108, 116, 105, 110]⟩, .string ⟨#[115, 116, 114, 105, 110, 103]⟩, .string ⟨#[116, 97, 98, 108, 101]⟩, .string ⟨#[102, 117, 110, 99, 116, 105, 111, 110]⟩, .string ⟨#[99, 111, 114, 111, 117, 116, 105, 110, 101]⟩, .string ⟨#[99, 101, 108, 108]⟩]) (.int .i64 2)).run Try.prog w = .ok (.string (tabS kindL 2)) w := fun _ => by kernel_rfl
    go_enter Try.func19, Try.ntmps19
    go_wp2_with ((with_reducible refine (kinds_any _).mono ?_); rintro e w' ⟨rfl, hb⟩)
    go_ret
    exact ⟨rfl, hb⟩
  · have hi : ∀ w, (Instr.index 38 (.agg #[.string ⟨#[110, 111, 110, 101]⟩, .string ⟨#[110, 105, 108]⟩, .string ⟨#[98, 111, 111, 108]⟩, .string ⟨#[105, 110, 116]⟩, .string ⟨#[98, 117, 105, 108, 116, 105, 110]⟩, .string ⟨#[115, 116, 114, 105, 110, 103]⟩, .string ⟨#[116, 97, 98, 108, 101]⟩, .string ⟨#[102, 117, 110, 99, 116, 105, 111, 110]⟩, .string ⟨#[99, 111, 114, 111, 117, 116, 105, 110, 101]⟩, .string ⟨#[99, 101, 108, 108]⟩]) (.int .i64 3)).run Try.prog w = .ok (.string (tabS kindL 3)) w := fun _ => by kernel_rfl
    go_enter Try.func19, Try.ntmps19
    go_wp2_with ((with_reducible refine (kinds_any _).mono ?_); rintro e w' ⟨rfl, hb⟩)
    go_ret
    exact ⟨rfl, hb⟩
  · have hi : ∀ w, (Instr.index 38 (.agg #[.string ⟨#[110, 111, 110, 101]⟩, .string ⟨#[110, 105, 108]⟩, .string ⟨#[98, 111, 111, 108]⟩, .string ⟨#[105, 110, 116]⟩, .string ⟨#[98, 117, 105, 108, 116, 105, 110]⟩, .string ⟨#[115, 116, 114, 105, 110, 103]⟩, .string ⟨#[116, 97, 98, 108, 101]⟩, .string ⟨#[102, 117, 110, 99, 116, 105, 111, 110]⟩, .string ⟨#[99, 111, 114, 111, 117, 116, 105, 110, 101]⟩, .string ⟨#[99, 101, 108, 108]⟩]) (.int .i64 4)).run Try.prog w = .ok (.string (tabS kindL 4)) w := fun _ => by kernel_rfl
    go_enter Try.func19, Try.ntmps19
    go_wp2_with ((with_reducible refine (kinds_any _).mono ?_); rintro e w' ⟨rfl, hb⟩)
    go_ret
    exact ⟨rfl, hb⟩
  · have hi : ∀ w, (Instr.index 38 (.agg #[.string ⟨#[110, 111, 110, 101]⟩, .string ⟨#[110, 105, 108]⟩, .string ⟨#[98, 111, 111, 108]⟩, .string ⟨#[105, 110, 116]⟩, .string ⟨#[98, 117, 105, 108, 116, 105, 110]⟩, .string ⟨#[115, 116, 114, 105, 110, 103]⟩, .string ⟨#[116, 97, 98, 108, 101]⟩, .string ⟨#[102, 117, 110, 99, 116, 105, 111, 110]⟩, .string ⟨#[99, 111, 114, 111, 117, 116, 105, 110, 101]⟩, .string ⟨#[99, 101, 108, 108]⟩]) (.int .i64 5)).run Try.prog w = .ok (.string (tabS kindL 5)) w := fun _ => by kernel_rfl
    go_enter Try.func19, Try.ntmps19
    go_wp2_with ((with_reducible refine (kinds_any _).mono ?_); rintro e w' ⟨rfl, hb⟩)
    go_ret
    exact ⟨rfl, hb⟩
  · have hi : ∀ w, (Instr.index 38 (.agg #[.string ⟨#[110, 111, 110, 101]⟩, .string ⟨#[110, 105, 108]⟩, .string ⟨#[98, 111, 111, 108]⟩, .string ⟨#[105, 110, 116]⟩, .string ⟨#[98, 117, 105, 108, 116, 105, 110]⟩, .string ⟨#[115, 116, 114, 105, 110, 103]⟩, .string ⟨#[116, 97, 98, 108, 101]⟩, .string ⟨#[102, 117, 110, 99, 116, 105, 111, 110]⟩, .string ⟨#[99, 111, 114, 111, 117, 116, 105, 110, 101]⟩, .string ⟨#[99, 101, 108, 108]⟩]) (.int .i64 6)).run Try.prog w = .ok (.string (tabS kindL 6)) w := fun _ => by kernel_rfl
    go_enter Try.func19, Try.ntmps19
    go_wp2_with ((with_reducible refine (kinds_any _).mono ?_); rintro e w' ⟨rfl, hb⟩)
    go_ret
    exact ⟨rfl, hb⟩
  · have hi : ∀ w, (Instr.index 38 (.agg #[.string ⟨#[110, 111, 110, 101]⟩, .string ⟨#[110, 105, 108]⟩, .string ⟨#[98, 111, 111, 108]⟩, .string ⟨#[105, 110, 116]⟩, .string ⟨#[98, 117, 105, 108, 116, 105, 110]⟩, .string ⟨#[115, 116, 114, 105, 110, 103]⟩, .string ⟨#[116, 97, 98, 108, 101]⟩, .string ⟨#[102, 117, 110, 99, 116, 105, 111, 110]⟩, .string ⟨#[99, 111, 114, 111, 117, 116, 105, 110, 101]⟩, .string ⟨#[99, 101, 108, 108]⟩]) (.int .i64 7)).run Try.prog w = .ok (.string (tabS kindL 7)) w := fun _ => by kernel_rfl
    go_enter Try.func19, Try.ntmps19
    go_wp2_with ((with_reducible refine (kinds_any _).mono ?_); rintro e w' ⟨rfl, hb⟩)
    go_ret
    exact ⟨rfl, hb⟩
  · have hi : ∀ w, (Instr.index 38 (.agg #[.string ⟨#[110, 111, 110, 101]⟩, .string ⟨#[110, 105, 108]⟩, .string ⟨#[98, 111, 111, 108]⟩, .string ⟨#[105, 110, 116]⟩, .string ⟨#[98, 117, 105, 108, 116, 105, 110]⟩, .string ⟨#[115, 116, 114, 105, 110, 103]⟩, .string ⟨#[116, 97, 98, 108, 101]⟩, .string ⟨#[102, 117, 110, 99, 116, 105, 111, 110]⟩, .string ⟨#[99, 111, 114, 111, 117, 116, 105, 110, 101]⟩, .string ⟨#[99, 101, 108, 108]⟩]) (.int .i64 8)).run Try.prog w = .ok (.string (tabS kindL 8)) w := fun _ => by kernel_rfl
    go_enter Try.func19, Try.ntmps19
    go_wp2_with ((with_reducible refine (kinds_any _).mono ?_); rintro e w' ⟨rfl, hb⟩)
    go_ret
    exact ⟨rfl, hb⟩
  · have hi : ∀ w, (Instr.index 38 (.agg #[.string ⟨#[110, 111, 110, 101]⟩, .string ⟨#[110, 105, 108]⟩, .string ⟨#[98, 111, 111, 108]⟩, .string ⟨#[105, 110, 116]⟩, .string ⟨#[98, 117, 105, 108, 116, 105, 110]⟩, .string ⟨#[115, 116, 114, 105, 110, 103]⟩, .string ⟨#[116, 97, 98, 108, 101]⟩, .string ⟨#[102, 117, 110, 99, 116, 105, 111, 110]⟩, .string ⟨#[99, 111, 114, 111, 117, 116, 105, 110, 101]⟩, .string ⟨#[99, 101, 108, 108]⟩]) (.int .i64 9)).run Try.prog w = .ok (.string (tabS kindL 9)) w := fun _ => by kernel_rfl
    go_enter Try.func19, Try.ntmps19
    go_wp2_with ((with_reducible refine (kinds_any _).mono ?_); rintro e w' ⟨rfl, hb⟩)
    go_ret
    exact ⟨rfl, hb⟩
set_option maxHeartbeats 1000000 in
theorem lib_any (n : Int) (w : World) (r : ByteArray) (hr : tabS libL n = r) : Calls Try.prog 21 #[.int .i64 n] w fun e w' => OneS r w e w' := by
  subst hr
  by_cases h0 : n < 0
  · have hm : tabS libL n = ⟨#[]⟩ := by simp [tabS, h0]
    rw [hm]; clear hm
    go_enter Try.func21, Try.ntmps21
    go_wp2_with fail
    go_ret
    exact ⟨rfl, Below.refl _ _⟩
  by_cases h9 : 12 < n
  · have hm : tabS libL n = ⟨#[]⟩ := by
      simp only [tabS, if_neg h0]
      rw [List.getD_eq_getElem?_getD, List.getElem?_eq_none (by simp [libL]; omega)]; rfl
    rw [hm]; clear hm
    go_enter Try.func21, Try.ntmps21
    go_wp2_with fail
    go_ret
    exact ⟨rfl, Below.refl _ _⟩
  have hc : n = 0 ∨ n = 1 ∨ n = 2 ∨ n = 3 ∨ n = 4 ∨ n = 5 ∨ n = 6 ∨ n = 7 ∨ n = 8 ∨ n = 9 ∨ n = 10 ∨ n = 11 ∨ n = 12 := by omega
  clear h0 h9
  rcases hc with rfl | rfl | rfl | rfl | rfl | rfl | rfl | rfl | rfl | rfl | rfl | rfl | rfl
  · have hi : ∀ w, (Instr.index 40 (.agg #[.string ⟨#[111, 117, 116]⟩, .string ⟨#[101, 114, 114, 111, 114]⟩, .string ⟨#[116, 121, 112, 101]⟩, .string ⟨#[115, 101, 116, 109, 101, 116, 97]⟩, .string ⟨#[103, 101, 116, 109, 101, 116, 97]⟩, .string ⟨#[114, 97, 119, 103, 101, 116]⟩, .string ⟨#[114, 97, 119, 115, 101, 116]⟩, .string ⟨#[110, 101, 120, 116]⟩, .string ⟨#[99, 111, 108, 108, 101, 99, 116]⟩, .string ⟨#[99, 114, 101, 97, 116, 101]⟩, .string ⟨#[114, 101, 115, 117, 109, 101]⟩, .string ⟨#[121, 105, 101, 108, 100]⟩, .string ⟨#[115, 116, 97, 116, 117, 115]⟩]) (.int .i64 0)).run Try.prog w = .ok (.string (tabS libL 0)) w := fun _ => by kernel_rfl
    go_enter Try.func21, Try.ntmps21
    go_wp2_with ((with_reducible refine (libs_any _).mono ?_); rintro e w' ⟨rfl, hb⟩)
    go_ret
    exact ⟨rfl, hb⟩
  · have hi : ∀ w, (Instr.index 40 (.agg #[.string ⟨#[111, 117, 116]⟩, .string ⟨#[101, 114, 114, 111, 114]⟩, .string ⟨#[116, 121, 112, 101]⟩, .string ⟨#[115, 101, 116, 109, 101, 116, 97]⟩, .string ⟨#[103, 101, 116, 109, 101, 116, 97]⟩, .string ⟨#[114, 97, 119, 103, 101, 116]⟩, .string ⟨#[114, 97, 119, 115, 101, 116]⟩, .string ⟨#[110, 101, 120, 116]⟩, .string ⟨#[99, 111, 108, 108, 101, 99, 116]⟩, .string ⟨#[99, 114, 101, 97, 116, 101]⟩, .string ⟨#[114, 101, 115, 117, 109, 101]⟩, .string ⟨#[121, 105, 101, 108, 100]⟩, .string ⟨#[115, 116, 97, 116, 117, 115]⟩]) (.int .i64 1)).run Try.prog w = .ok (.string (tabS libL 1)) w := fun _ => by kernel_rfl
    go_enter Try.func21, Try.ntmps21
    go_wp2_with ((with_reducible refine (libs_any _).mono ?_); rintro e w' ⟨rfl, hb⟩)
    go_ret
    exact ⟨rfl, hb⟩
  · have hi : ∀ w, (Instr.index 40 (.agg #[.string ⟨#[111, 117, 116]⟩, .string ⟨#[101, 114, 114, 111, 114]⟩, .string ⟨#[116, 121, 112, 101]⟩, .string ⟨#[115, 101, 116, 109, 101, 116, 97]⟩, .string ⟨#[103, 101, 116, 109, 101, 116, 97]⟩, .string ⟨#[114, 97, 119, 103, 101, 116]⟩, .string ⟨#[114, 97, 119, 115, 101, 116]⟩, .string ⟨#[110, 101, 120, 116]⟩, .string ⟨#[99, 111, 108, 108, 101, 99, 116]⟩, .string ⟨#[99, 114, 101, 97, 116, 101]⟩, .string ⟨#[114, 101, 115, 117, 109, 101]⟩, .string ⟨#[121, 105, 101, 108, 100]⟩, .string ⟨#[115, 116, 97, 116, 117, 115]⟩]) (.int .i64 2)).run Try.prog w = .ok (.string (tabS libL 2)) w := fun _ => by kernel_rfl
    go_enter Try.func21, Try.ntmps21
    go_wp2_with ((with_reducible refine (libs_any _).mono ?_); rintro e w' ⟨rfl, hb⟩)
    go_ret
    exact ⟨rfl, hb⟩
  · have hi : ∀ w, (Instr.index 40 (.agg #[.string ⟨#[111, 117, 116]⟩, .string ⟨#[101, 114, 114, 111, 114]⟩, .string ⟨#[116, 121, 112, 101]⟩, .string ⟨#[115, 101, 116, 109, 101, 116, 97]⟩, .string ⟨#[103, 101, 116, 109, 101, 116, 97]⟩, .string ⟨#[114, 97, 119, 103, 101, 116]⟩, .string ⟨#[114, 97, 119, 115, 101, 116]⟩, .string ⟨#[110, 101, 120, 116]⟩, .string ⟨#[99, 111, 108, 108, 101, 99, 116]⟩, .string ⟨#[99, 114, 101, 97, 116, 101]⟩, .string ⟨#[114, 101, 115, 117, 109, 101]⟩, .string ⟨#[121, 105, 101, 108, 100]⟩, .string ⟨#[115, 116, 97, 116, 117, 115]⟩]) (.int .i64 3)).run Try.prog w = .ok (.string (tabS libL 3)) w := fun _ => by kernel_rfl
    go_enter Try.func21, Try.ntmps21
    go_wp2_with ((with_reducible refine (libs_any _).mono ?_); rintro e w' ⟨rfl, hb⟩)
    go_ret
    exact ⟨rfl, hb⟩
  · have hi : ∀ w, (Instr.index 40 (.agg #[.string ⟨#[111, 117, 116]⟩, .string ⟨#[101, 114, 114, 111, 114]⟩, .string ⟨#[116, 121, 112, 101]⟩, .string ⟨#[115, 101, 116, 109, 101, 116, 97]⟩, .string ⟨#[103, 101, 116, 109, 101, 116, 97]⟩, .string ⟨#[114, 97, 119, 103, 101, 116]⟩, .string ⟨#[114, 97, 119, 115, 101, 116]⟩, .string ⟨#[110, 101, 120, 116]⟩, .string ⟨#[99, 111, 108, 108, 101, 99, 116]⟩, .string ⟨#[99, 114, 101, 97, 116, 101]⟩, .string ⟨#[114, 101, 115, 117, 109, 101]⟩, .string ⟨#[121, 105, 101, 108, 100]⟩, .string ⟨#[115, 116, 97, 116, 117, 115]⟩]) (.int .i64 4)).run Try.prog w = .ok (.string (tabS libL 4)) w := fun _ => by kernel_rfl
    go_enter Try.func21, Try.ntmps21
    go_wp2_with ((with_reducible refine (libs_any _).mono ?_); rintro e w' ⟨rfl, hb⟩)
    go_ret
    exact ⟨rfl, hb⟩
  · have hi : ∀ w, (Instr.index 40 (.agg #[.string ⟨#[111, 117, 116]⟩, .string ⟨#[101, 114, 114, 111, 114]⟩, .string ⟨#[116, 121, 112, 101]⟩, .string ⟨#[115, 101, 116, 109, 101, 116, 97]⟩, .string ⟨#[103, 101, 116, 109, 101, 116, 97]⟩, .string ⟨#[114, 97, 119, 103, 101, 116]⟩, .string ⟨#[114, 97, 119, 115, 101, 116]⟩, .string ⟨#[110, 101, 120, 116]⟩, .string ⟨#[99, 111, 108, 108, 101, 99, 116]⟩, .string ⟨#[99, 114, 101, 97, 116, 101]⟩, .string ⟨#[114, 101, 115, 117, 109, 101]⟩, .string ⟨#[121, 105, 101, 108, 100]⟩, .string ⟨#[115, 116, 97, 116, 117, 115]⟩]) (.int .i64 5)).run Try.prog w = .ok (.string (tabS libL 5)) w := fun _ => by kernel_rfl
    go_enter Try.func21, Try.ntmps21
    go_wp2_with ((with_reducible refine (libs_any _).mono ?_); rintro e w' ⟨rfl, hb⟩)
    go_ret
    exact ⟨rfl, hb⟩
  · have hi : ∀ w, (Instr.index 40 (.agg #[.string ⟨#[111, 117, 116]⟩, .string ⟨#[101, 114, 114, 111, 114]⟩, .string ⟨#[116, 121, 112, 101]⟩, .string ⟨#[115, 101, 116, 109, 101, 116, 97]⟩, .string ⟨#[103, 101, 116, 109, 101, 116, 97]⟩, .string ⟨#[114, 97, 119, 103, 101, 116]⟩, .string ⟨#[114, 97, 119, 115, 101, 116]⟩, .string ⟨#[110, 101, 120, 116]⟩, .string ⟨#[99, 111, 108, 108, 101, 99, 116]⟩, .string ⟨#[99, 114, 101, 97, 116, 101]⟩, .string ⟨#[114, 101, 115, 117, 109, 101]⟩, .string ⟨#[121, 105, 101, 108, 100]⟩, .string ⟨#[115, 116, 97, 116, 117, 115]⟩]) (.int .i64 6)).run Try.prog w = .ok (.string (tabS libL 6)) w := fun _ => by kernel_rfl
    go_enter Try.func21, Try.ntmps21
    go_wp2_with ((with_reducible refine (libs_any _).mono ?_); rintro e w' ⟨rfl, hb⟩)
    go_ret
    exact ⟨rfl, hb⟩
  · have hi : ∀ w, (Instr.index 40 (.agg #[.string ⟨#[111, 117, 116]⟩, .string ⟨#[101, 114, 114, 111, 114]⟩, .string ⟨#[116, 121, 112, 101]⟩, .string ⟨#[115, 101, 116, 109, 101, 116, 97]⟩, .string ⟨#[103, 101, 116, 109, 101, 116, 97]⟩, .string ⟨#[114, 97, 119, 103, 101, 116]⟩, .string ⟨#[114, 97, 119, 115, 101, 116]⟩, .string ⟨#[110, 101, 120, 116]⟩, .string ⟨#[99, 111, 108, 108, 101, 99, 116]⟩, .string ⟨#[99, 114, 101, 97, 116, 101]⟩, .string ⟨#[114, 101, 115, 117, 109, 101]⟩, .string ⟨#[121, 105, 101, 108, 100]⟩, .string ⟨#[115, 116, 97, 116, 117, 115]⟩]) (.int .i64 7)).run Try.prog w = .ok (.string (tabS libL 7)) w := fun _ => by kernel_rfl
    go_enter Try.func21, Try.ntmps21
    go_wp2_with ((with_reducible refine (libs_any _).mono ?_); rintro e w' ⟨rfl, hb⟩)
    go_ret
    exact ⟨rfl, hb⟩
  · have hi : ∀ w, (Instr.index 40 (.agg #[.string ⟨#[111, 117, 116]⟩, .string ⟨#[101, 114, 114, 111, 114]⟩, .string ⟨#[116, 121, 112, 101]⟩, .string ⟨#[115, 101, 116, 109, 101, 116, 97]⟩, .string ⟨#[103, 101, 116, 109, 101, 116, 97]⟩, .string ⟨#[114, 97, 119, 103, 101, 116]⟩, .string ⟨#[114, 97, 119, 115, 101, 116]⟩, .string ⟨#[110, 101, 120, 116]⟩, .string ⟨#[99, 111, 108, 108, 101, 99, 116]⟩, .string ⟨#[99, 114, 101, 97, 116, 101]⟩, .string ⟨#[114, 101, 115, 117, 109, 101]⟩, .string ⟨#[121, 105, 101, 108, 100]⟩, .string ⟨#[115, 116, 97, 116, 117, 115]⟩]) (.int .i64 8)).run Try.prog w = .ok (.string (tabS libL 8)) w := fun _ => by kernel_rfl
    go_enter Try.func21, Try.ntmps21
    go_wp2_with ((with_reducible refine (libs_any _).mono ?_); rintro e w' ⟨rfl, hb⟩)
    go_ret
    exact ⟨rfl, hb⟩
  · have hi : ∀ w, (Instr.index 40 (.agg #[.string ⟨#[111, 117, 116]⟩, .string ⟨#[101, 114, 114, 111, 114]⟩, .string ⟨#[116, 121, 112, 101]⟩, .string ⟨#[115, 101, 116, 109, 101, 116, 97]⟩, .string ⟨#[103, 101, 116, 109, 101, 116, 97]⟩, .string ⟨#[114, 97, 119, 103, 101, 116]⟩, .string ⟨#[114, 97, 119, 115, 101, 116]⟩, .string ⟨#[110, 101, 120, 116]⟩, .string ⟨#[99, 111, 108, 108, 101, 99, 116]⟩, .string ⟨#[99, 114, 101, 97, 116, 101]⟩, .string ⟨#[114, 101, 115, 117, 109, 101]⟩, .string ⟨#[121, 105, 101, 108, 100]⟩, .string ⟨#[115, 116, 97, 116, 117, 115]⟩]) (.int .i64 9)).run Try.prog w = .ok (.string (tabS libL 9)) w := fun _ => by kernel_rfl
    go_enter Try.func21, Try.ntmps21
    go_wp2_with ((with_reducible refine (libs_any _).mono ?_); rintro e w' ⟨rfl, hb⟩)
    go_ret
    exact ⟨rfl, hb⟩
  · have hi : ∀ w, (Instr.index 40 (.agg #[.string ⟨#[111, 117, 116]⟩, .string ⟨#[101, 114, 114, 111, 114]⟩, .string ⟨#[116, 121, 112, 101]⟩, .string ⟨#[115, 101, 116, 109, 101, 116, 97]⟩, .string ⟨#[103, 101, 116, 109, 101, 116, 97]⟩, .string ⟨#[114, 97, 119, 103, 101, 116]⟩, .string ⟨#[114, 97, 119, 115, 101, 116]⟩, .string ⟨#[110, 101, 120, 116]⟩, .string ⟨#[99, 111, 108, 108, 101, 99, 116]⟩, .string ⟨#[99, 114, 101, 97, 116, 101]⟩, .string ⟨#[114, 101, 115, 117, 109, 101]⟩, .string ⟨#[121, 105, 101, 108, 100]⟩, .string ⟨#[115, 116, 97, 116, 117, 115]⟩]) (.int .i64 10)).run Try.prog w = .ok (.string (tabS libL 10)) w := fun _ => by kernel_rfl
    go_enter Try.func21, Try.ntmps21
    go_wp2_with ((with_reducible refine (libs_any _).mono ?_); rintro e w' ⟨rfl, hb⟩)
    go_ret
    exact ⟨rfl, hb⟩
  · have hi : ∀ w, (Instr.index 40 (.agg #[.string ⟨#[111, 117, 116]⟩, .string ⟨#[101, 114, 114, 111, 114]⟩, .string ⟨#[116, 121, 112, 101]⟩, .string ⟨#[115, 101, 116, 109, 101, 116, 97]⟩, .string ⟨#[103, 101, 116, 109, 101, 116, 97]⟩, .string ⟨#[114, 97, 119, 103, 101, 116]⟩, .string ⟨#[114, 97, 119, 115, 101, 116]⟩, .string ⟨#[110, 101, 120, 116]⟩, .string ⟨#[99, 111, 108, 108, 101, 99, 116]⟩, .string ⟨#[99, 114, 101, 97, 116, 101]⟩, .string ⟨#[114, 101, 115, 117, 109, 101]⟩, .string ⟨#[121, 105, 101, 108, 100]⟩, .string ⟨#[115, 116, 97, 116, 117, 115]⟩]) (.int .i64 11)).run Try.prog w = .ok (.string (tabS libL 11)) w := fun _ => by kernel_rfl
    go_enter Try.func21, Try.ntmps21
    go_wp2_with ((with_reducible refine (libs_any _).mono ?_); rintro e w' ⟨rfl, hb⟩)
    go_ret
    exact ⟨rfl, hb⟩
  · have hi : ∀ w, (Instr.index 40 (.agg #[.string ⟨#[111, 117, 116]⟩, .string ⟨#[101, 114, 114, 111, 114]⟩, .string ⟨#[116, 121, 112, 101]⟩, .string ⟨#[115, 101, 116, 109, 101, 116, 97]⟩, .string ⟨#[103, 101, 116, 109, 101, 116, 97]⟩, .string ⟨#[114, 97, 119, 103, 101, 116]⟩, .string ⟨#[114, 97, 119, 115, 101, 116]⟩, .string ⟨#[110, 101, 120, 116]⟩, .string ⟨#[99, 111, 108, 108, 101, 99, 116]⟩, .string ⟨#[99, 114, 101, 97, 116, 101]⟩, .string ⟨#[114, 101, 115, 117, 109, 101]⟩, .string ⟨#[121, 105, 101, 108, 100]⟩, .string ⟨#[115, 116, 97, 116, 117, 115]⟩]) (.int .i64 12)).run Try.prog w = .ok (.string (tabS libL 12)) w := fun _ => by kernel_rfl
    go_enter Try.func21, Try.ntmps21
    go_wp2_with ((with_reducible refine (libs_any _).mono ?_); rintro e w' ⟨rfl, hb⟩)
    go_ret
    exact ⟨rfl, hb⟩
end Go.Proofs.Ytdniemdjoipbiaa.H
