import Derived.Test.YtnklefbojabblaaPA
import Derived.Test.YtnklefbojabblaaGxF7
namespace Go.Proofs.Ytnklefbojabblaa.Z
open Go.RowKit Go.Proofs.Ytnklefbojabblaa.G Go.Proofs.Ytnklefbojabblaa.H Go.Proofs.YtnklefbojabblaaW.PrintWords Go.Proofs.YtnklefbojabblaaW.PrintLast Go.Proofs.YtnklefbojabblaaW.PrintMore
set_option linter.unusedVariables false
set_option linter.unusedSimpArgs false
theorem known_start (k : Nat) : tallowlaw03_QuoteKnown.f (k + 25) = tallowlaw03_QuoteKnown.l2 k (List.replicate 4096 0) 0 := by kernel_rfl
theorem bytes_ext {a b : ByteArray} (h : a.data.toList = b.data.toList) : a = b := ByteArray.ext (Array.toList_inj.mp h)
theorem app_list (a b : ByteArray) : (a ++ b).data.toList = a.data.toList ++ b.data.toList := by
  rw [ByteArray.data_append, Array.toList_append]
def S97 : ByteArray := strOfNums (List.replicate 4096 97)
theorem S97_list : S97.data.toList = List.replicate 4096 97 := by
  unfold S97
  rw [strOfNums_data, List.map_replicate]
  rfl
theorem S97_size : S97.size = 4096 := by unfold S97; rw [strOfNums_size, List.length_replicate]
theorem flat97 : ∀ n : Nat, (List.replicate n (97 : UInt8)).flatMap qbyte = List.replicate n 97
  | 0 => rfl
  | n + 1 => by rw [List.replicate_succ, List.flatMap_cons, flat97 n]; rfl
theorem glue1 (R : List UInt8) : ([34] ++ R) ++ [92, 110, 34] = 34 :: (R ++ [10].flatMap qbyte) ++ [34] := by
  show ([34] ++ R) ++ [92, 110, 34] = 34 :: (R ++ [92, 110]) ++ [34]
  simp
theorem glue2 (R : List UInt8) : ([34] ++ R) ++ [92, 110] = 34 :: ((R ++ [92]) ++ [110]) := by simp
theorem known_fin (xs : List Int) (k : Nat) (S : ByteArray) (hS : strOfNums xs = S) (hx : xs.length = 4096) (hz : S.size = 4096)
    (u1 : quote_Unquote.f (((⟨#[34]⟩ : ByteArray) ++ S) ++ (⟨#[34]⟩ : ByteArray)) = some (S, 0)) (u2 : quote_Unquote.f (((⟨#[34]⟩ : ByteArray) ++ S) ++ (⟨#[92, 110, 34]⟩ : ByteArray)) = some (⟨#[]⟩, 3))
    (u3 : quote_Unquote.f (((⟨#[34]⟩ : ByteArray) ++ S) ++ (⟨#[92, 110]⟩ : ByteArray)) = some (⟨#[]⟩, 4)) : tallowlaw03_QuoteKnown.l2 (k + 1) xs 4096 = some true := by
  rw [tallowlaw03_QuoteKnown.l2, if_neg (by rw [hx]; decide), hS]
  have hc : ((⟨#[34]⟩ : ByteArray) ++ S).size = 4097 := by rw [ByteArray.size_append, hz]; rfl
  rw [hz, hc, if_pos (by decide), if_pos (by decide), u1, Option.bind_some, if_pos (by decide), u2, Option.bind_some, if_pos (by decide), u3, Option.bind_some, if_pos rfl, if_pos rfl, if_pos rfl, if_pos rfl, works_ok]
  rfl
theorem known_end (k : Nat) : tallowlaw03_QuoteKnown.l2 (k + 1) (List.replicate 4096 97) 4096 = some true := by
  have hS := S97_list
  have hz := S97_size
  have h1 : (⟨#[34]⟩ : ByteArray).size = 1 := rfl
  have e1 : ((⟨#[34]⟩ : ByteArray) ++ S97) ++ (⟨#[34]⟩ : ByteArray) = ⟨(qtext S97).toArray⟩ := by
    apply bytes_ext
    rw [app_list, app_list, hS]
    unfold qtext
    rw [hS, flat97]
    rfl
  have e2 : ((⟨#[34]⟩ : ByteArray) ++ S97) ++ (⟨#[92, 110, 34]⟩ : ByteArray) = ⟨(qtext (S97 ++ (⟨#[10]⟩ : ByteArray))).toArray⟩ := by
    apply bytes_ext
    rw [app_list, app_list, hS]
    unfold qtext
    rw [app_list, hS, List.flatMap_append, flat97]
    exact glue1 _
  have u1 := back_ok S97 (by rw [hz]; decide)
  rw [← e1] at u1
  have hz2 : (S97 ++ (⟨#[10]⟩ : ByteArray)).size = 4097 := by rw [ByteArray.size_append, hz]; rfl
  have u2 := back_long (S97 ++ (⟨#[10]⟩ : ByteArray)) (by rw [hz2]; decide) (by rw [hz2]; decide)
  rw [← e2] at u2
  have u3 : quote_Unquote.f (((⟨#[34]⟩ : ByteArray) ++ S97) ++ (⟨#[92, 110]⟩ : ByteArray)) = some (⟨#[]⟩, 4) := by
    unfold quote_Unquote.f
    rw [if_pos (by rw [ByteArray.size_append, ByteArray.size_append, hz]; decide)]
    unfold unquote.f
    rw [if_neg]
    rintro ⟨p1, p2⟩
    have el : (((⟨#[34]⟩ : ByteArray) ++ S97) ++ (⟨#[92, 110]⟩ : ByteArray)).data.toList = 34 :: ((List.replicate 4096 97 ++ [92]) ++ [110]) := by
      rw [app_list, app_list, hS]
      exact glue2 _
    rw [el] at p1 p2
    have e3 : Lib.trimPrefix (34 :: ((List.replicate 4096 97 ++ [92]) ++ [110])) [34] = (List.replicate 4096 97 ++ [92]) ++ [110] := by unfold Lib.trimPrefix; rw [if_pos p1]; rfl
    rw [e3] at p2
    unfold Lib.hasSuffix at p2
    rw [List.isSuffixOf_iff_suffix] at p2
    obtain ⟨t, ht⟩ := p2
    have := List.append_inj_right' ht rfl
    injection this with h
    exact absurd h (by decide)
  exact known_fin _ k S97 rfl List.length_replicate hz u1 u2 u3
theorem known_loop : ∀ (d i k : Nat), i + d = 4096 → tallowlaw03_QuoteKnown.l2 (d + (k + 1)) (List.replicate i 97 ++ List.replicate d 0) (i : Int) = some true
  | 0, i, k, h => by
    obtain rfl : i = 4096 := by omega
    rw [List.replicate_zero, List.append_nil, Nat.zero_add]
    exact known_end k
  | d + 1, i, k, h => by
    rw [show d + 1 + (k + 1) = (d + (k + 1)) + 1 by omega, tallowlaw03_QuoteKnown.l2]
    rw [if_pos (by simp; omega), if_pos (by omega), w64 _ (by omega) (by omega), show ((i : Int) + 1) = ((i + 1 : Nat) : Int) by omega]
    have hset : (List.replicate i (97 : Int) ++ List.replicate (d + 1) 0).set (i : Int).toNat 97 = List.replicate (i + 1) 97 ++ List.replicate d 0 := by
      rw [Int.toNat_natCast, List.set_append_right _ _ (by simp), List.length_replicate, Nat.sub_self, List.replicate_succ, List.set_cons_zero, List.replicate_succ', List.append_assoc]
      rfl
    rw [hset]
    exact known_loop d (i + 1) k (by omega)
theorem quoteKnown : tallowlaw03_QuoteKnown.Pure := by
  refine ⟨(4096 + (0 + 1)) + 25, ?_⟩
  rw [known_start]
  exact known_loop 4096 0 0 rfl
end Go.Proofs.Ytnklefbojabblaa.Z
