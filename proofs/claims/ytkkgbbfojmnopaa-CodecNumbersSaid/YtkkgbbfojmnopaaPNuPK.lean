import Derived.Test.YtkkgbbfojmnopaaPNuPJ
import Derived.Test.YtkkgbbfojmnopaaPNuE12
set_option linter.unusedVariables false
set_option linter.unusedSimpArgs false
section
namespace Go.Proofs.Ytkkgbbfojmnopaa.Z
open Go.RowKit Go.Proofs.Ytkkgbbfojmnopaa.G Go.Proofs.YtkkgbbfojmnopaaW.PrintWords Go.Proofs.YtkkgbbfojmnopaaW.PrintLast Go.Proofs.YtkkgbbfojmnopaaW.PrintMore
set_option linter.unusedVariables false
set_option linter.unusedSimpArgs false
def numC (n : Int) : List S42 := [⟨3, n, ⟨#[]⟩⟩]
theorem numL_check (n : Int) : checkS (leastL (numC n)) = 0 := by
  rw [checkS_zero]
  refine ⟨Nat.one_pos, show 1 ≤ 256 by decide, fun j hj => ?_⟩
  obtain rfl : j = 0 := by have : j < 1 := hj; omega
  show protoS 0 1 [] (numC n) [⟨0, 0, 0⟩, ⟨19, 0, 0⟩] _ _ = 0
  rw [protoS_zero]
  refine ⟨by simp [numC], rfl, ?_, ?_, by decide, ?_⟩
  · simp only [numC, List.all_cons, List.all_nil, Bool.and_true]
    unfold okC
    rw [ByteArray.toList_eq]
    rfl
  · rfl
  · rfl
theorem numL_in (n : Int) (h : -9223372036854775808 ≤ n ∧ n ≤ 9223372036854775807) : inP (leastL (numC n)) := by
  intro q hq c hc
  simp only [leastL, List.mem_singleton] at hq
  subst hq
  simp only [numC, List.mem_singleton] at hc
  subst hc
  exact h
def numT (n : Int) : Nat := sizeGo 9 (if 0 ≤ n then n.toNat else (-1 - n).toNat) 1
theorem numL_len (n : Int) (h : -9223372036854775808 ≤ n ∧ n ≤ 9223372036854775807) : (progE (leastL (numC n))).length = 13 + numT n := by
  have e : progE (leastL (numC n)) = [1, 0, 1, 0, 1] ++ (codC.enc ⟨3, n, ⟨#[]⟩⟩ ++ [2, 0, 0, 0, 19, 0, 0]) := by
    show putN 1 ++ ((leastL (numC n)).flatMap codP.enc) = _
    rw [leastL, List.flatMap_singleton, codP_enc]
    simp only [numC, List.flatMap_singleton, List.flatMap_nil, List.flatMap_cons]
    simp only [List.append_assoc]
    rfl
  rw [e, codC_enc, if_pos rfl]
  have h1 := int_len n h.1 h.2
  have h2 : (putN (Cod.zig n)).length = numT n := h1
  simp only [List.length_append, h2]
  show 5 + ((putN 0).length + numT n + 7) = _
  rw [show (putN 0).length = 1 from rfl]
  omega
theorem numT_le (n : Int) (h : -9223372036854775808 ≤ n ∧ n ≤ 9223372036854775807) : numT n ≤ 10 := by
  have h1 := int_len n h.1 h.2
  have h2 : (putN (Cod.zig n)).length = numT n := h1
  rw [← h2]
  exact putN_le _
theorem numE (n : Int) (h : -9223372036854775808 ≤ n ∧ n ≤ 9223372036854775807) : encS (leastL (numC n)) = (⟨(progE (leastL (numC n))).toArray⟩, 0) := by
  unfold encS
  rw [if_pos (numL_check n), if_neg]
  rw [numL_len n h]
  have := numT_le n h
  omega
theorem numD (n : Int) (h : -9223372036854775808 ≤ n ∧ n ≤ 9223372036854775807) : decS ⟨(progE (leastL (numC n))).toArray⟩ = (leastL (numC n), 0) := by
  refine dec_yes ?_ rfl (numL_check n) (numL_in n h)
  show (progE (leastL (numC n))).toArray.size ≤ 262144
  rw [List.size_toArray, numL_len n h]
  have := numT_le n h
  omega
theorem numbers_walk (n : Int) (w : World) (h : (Lit.int .i64 n).wf = true) : Calls Try.prog 7 #[.int .i64 n] w fun e w' => e = .returned (.bool true) ∧ Below w.heap.size w w' := by
  have hn := wf_i64 h
  obtain ⟨K1, h1⟩ := Ev.eq (enc_ok _ (numL_in n hn)) (numE n hn)
  obtain ⟨K2, h2⟩ := Ev.eq (dec_ok _) (numD n hn)
  obtain ⟨K3, h3⟩ := works_ok
  have hm := numT_le n hn
  exact numbers_any (max K1 (max K2 K3)) n ⟨(progE (leastL (numC n))).toArray⟩ (leastL (numC n)) (numT n) w hn rfl (h1 _ (by omega)) (h2 _ (by omega)) (h3 _ (by omega)) rfl hm (by show (progE (leastL (numC n))).toArray.size = _; rw [List.size_toArray, numL_len n hn])
end Go.Proofs.Ytkkgbbfojmnopaa.Z
end
