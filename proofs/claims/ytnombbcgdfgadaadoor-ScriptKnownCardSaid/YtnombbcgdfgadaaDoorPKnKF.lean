import Derived.LaidMore
import Derived.LaidHandle
import Derived.Stop.Joined
import Derived.Lib.IfaceEq
import Derived.Lib.ItoaLen
import Derived.Shelf.Strings.MapGrows
import Derived.Shelf.Abstract
import Derived.LaidEql
import Derived.Stop.Asserts
import Derived.RowKitTokens
import Derived.Lib.LaidTab
import Derived.Lib.AppendIntMem
import Derived.Stop.LaidErr
import Derived.WalkKit
import Derived.Deep.RegionLaw
import Derived.Deep.Cut
import Derived.WalkSpells
import Derived.Test.YtnombbcgdfgadaaDoorPKnBK
import Derived.Lib.Hide
set_option linter.unusedVariables false
set_option linter.unusedSimpArgs false
section
namespace Go.Proofs.YtnombbcgdfgadaaDoor.G
open Go.Shelf Go.Extern.Stop Go.Stop Go.Extern Go.RowKit Go.Proofs.YtnombbcgdfgadaaDoorW.PrintWords Go.Proofs.YtnombbcgdfgadaaDoorW.PrintLast Go.Proofs.YtnombbcgdfgadaaDoorW.PrintMore
set_option linter.unusedVariables false
set_option linter.unusedSimpArgs false
def knT : List ByteArray := [⟨#[]⟩, "source".toUTF8, "run 5\n".toUTF8, "run\nsource\n".toUTF8, "run  5\nsource\n".toUTF8, "collect 0\nsource\n".toUTF8, "run 5 \nsource\n".toUTF8, "run -1\nsource\n".toUTF8, "run -0\nsource\n".toUTF8, " run 1\nsource\n".toUTF8, "runs 1\nsource\n".toUTF8, "fin\nsource\n".toUTF8, "run \nsource\n".toUTF8, "source \n".toUTF8, "collect\n\nsource\n".toUTF8, "run 5\nsource".toUTF8]
def knL : List Int := [0, 0, 1, 0, 0, 0, 0, 0, 0, 0, 0, 0, 0, 0, 1, 1]
def knOk (t : ByteArray) (a : Int) : Bool := match script_Parse.f 4 t with | some (T, zs, c, af) => T.size == 0 && zs.length == 0 && c == 4 && af == a | none => false
theorem kn_a : script_Parse.f 4 ⟨#[115, 108, 105, 99, 101, 32, 49, 10, 114, 117, 110, 32, 50, 49, 52, 55, 52, 56, 51, 54, 52, 56, 10, 115, 111, 117, 114, 99, 101, 10]⟩ = some (⟨#[]⟩, [], 15, 1) := by kernel_rfl
theorem kn_b : script_Parse.f 4 ⟨#[102, 105, 110, 32, 50, 49, 52, 55, 52, 56, 51, 54, 52, 55, 10, 114, 101, 108, 101, 97, 115, 101, 32, 48, 10, 115, 111, 117, 114, 99, 101, 10]⟩ = some (⟨#[]⟩, [⟨4, 2147483647⟩, ⟨1, 0⟩], 0, 0) := by kernel_rfl
theorem kn_h : script_Parse.f 4 ⟨#[114, 117, 110, 32, 50, 49, 52, 55, 52, 56, 51, 54, 52, 56]⟩ = some (⟨#[]⟩, [], 15, 0) := by kernel_rfl
theorem kn_i : printF ⟨#[]⟩ [⟨3, 1⟩] = (⟨#[]⟩, 2) := by kernel_rfl
theorem kn_k : printF ⟨#[]⟩ [⟨5, 0⟩] = (⟨#[]⟩, 2) := by kernel_rfl
theorem kn_l : printF ⟨#[]⟩ [⟨0, -1⟩] = (⟨#[]⟩, 2) := by kernel_rfl
theorem kn_m : printF ⟨#[]⟩ [⟨0, 2147483648⟩] = (⟨#[]⟩, 2) := by kernel_rfl
theorem kn_p : printF ⟨#[0, 115, 111, 117, 114, 99, 101, 10]⟩ [⟨1, 2⟩, ⟨4, 2147483647⟩] = (⟨#[114, 101, 108, 101, 97, 115, 101, 32, 50, 10, 102, 105, 110, 32, 50, 49, 52, 55, 52, 56, 51, 54, 52, 55, 10, 115, 111, 117, 114, 99, 101, 10, 0, 115, 111, 117, 114, 99, 101, 10]⟩, 0) := by kernel_rfl
theorem kn_d : script_Parse.f 4 ⟨#[114, 117, 110, 32, 57, 57, 57, 57, 57, 57, 57, 57, 57, 57, 57, 57, 57, 57, 57, 57, 57, 57, 57, 57, 57, 57, 57, 10, 115, 111, 117, 114, 99, 101, 10]⟩ = some (⟨#[]⟩, [], 15, 0) := by kernel_rfl
def coB : List UInt8 := [99, 111, 108, 108, 101, 99, 116]
theorem co_ln : ln ⟨3, 0⟩ = coB := by kernel_rfl
theorem co_line : lineB ⟨3, 0⟩ = coB ++ [10] := by rw [lineB_ln, co_ln]
theorem rep_co : ∀ n : Nat, Lib.repeatL (coB ++ [10]) n = (List.replicate n (⟨3, 0⟩ : S44)).flatMap lineB
  | 0 => rfl
  | n + 1 => by
    rw [List.replicate_succ, List.flatMap_cons, ← rep_co n, co_line]
    rfl
theorem all_co (n : Nat) : (List.replicate n (⟨3, 0⟩ : S44)).all okD = true := by
  rw [List.all_replicate]
  have : okD ⟨3, 0⟩ = true := by decide
  split <;> simp [this]
theorem run_over : ∀ (ys : List S44) (m a : Nat) (xs : List S44) (t : ByteArray) (rest : List UInt8), t.data.toList = ys.flatMap lineB ++ rest → ys.all okD = true → xs.length + ys.length ≤ 4096 → a + ys.length ≤ 4096 → runF (m + ys.length) (a : Int) xs t = runF m ((a + ys.length : Nat) : Int) (xs ++ ys) ⟨rest.toArray⟩
  | [], m, a, xs, t, rest, ht, _, _, _ => by
    rw [List.flatMap_nil, List.nil_append] at ht
    rw [List.append_nil, show t = ⟨rest.toArray⟩ from ba_ext (by rw [ht])]
    rfl
  | d :: ys, m, a, xs, t, rest, ht, hall, hlen, ha => by
    rw [List.all_cons, Bool.and_eq_true] at hall
    rw [List.length_cons] at hlen ha
    rw [List.flatMap_cons, lineB_ln, List.append_assoc, List.append_assoc, List.cons_append, List.nil_append] at ht
    have hc := cut_line t _ _ (ln_no hall.1) ht
    have ih := run_over ys m (a + 1) (xs ++ [d]) ⟨(ys.flatMap lineB ++ rest).toArray⟩ rest rfl hall.2 (by rw [List.length_append]; simp; omega) (by omega)
    rw [List.length_cons, show m + (ys.length + 1) = (m + ys.length) + 1 by omega]
    conv => lhs; unfold runF
    rw [hc]
    dsimp only
    rw [step_ln hall.1 ⟨(ln d).toArray⟩ rfl]
    dsimp only
    have hns : ¬ ((⟨(ln d).toArray⟩ : ByteArray).toList = srcB.toList) := by
      rw [toList_data, toList_data]
      exact src_ln hall.1
    rw [if_neg (fun h => hns h.2), if_neg (by decide), if_neg (by omega), if_neg (by decide)]
    have hw : wrap64 ((a : Int) + 1) = ((a + 1 : Nat) : Int) := by rw [w_id (by omega)]; rfl
    rw [hw, show xs ++ d :: ys = (xs ++ [d]) ++ ys by simp, show a + (ys.length + 1) = a + 1 + ys.length by omega]
    exact ih
def coT (n : Nat) : ByteArray := (⟨(Lib.repeatL (⟨#[99, 111, 108, 108, 101, 99, 116, 10]⟩ : ByteArray).data.toList n).toArray⟩ : ByteArray) ++ (⟨#[115, 111, 117, 114, 99, 101, 10]⟩ : ByteArray)
theorem coT_list (n : Nat) : (coT n).data.toList = (List.replicate n (⟨3, 0⟩ : S44)).flatMap lineB ++ ([115, 111, 117, 114, 99, 101, 10]) := by
  unfold coT
  rw [ByteArray.data_append, Array.toList_append, ← rep_co]
  rfl
theorem coT_size (n : Nat) : (coT n).size = 8 * n + 7 := by
  unfold coT
  rw [ByteArray.size_append]
  show (Lib.repeatL _ n).toArray.size + 7 = _
  rw [List.size_toArray, Lib.repeatL_length]
  show n * 8 + 7 = _
  omega
theorem kn_f : script_Parse.f 4097 (coT 4096) = some (⟨#[]⟩, List.replicate 4096 ⟨3, 0⟩, 0, 0) := by
  unfold script_Parse.f
  rw [if_pos (by rw [coT_size]; omega)]
  have h := run_print ⟨#[]⟩ (by decide) (List.replicate 4096 ⟨3, 0⟩) 0 0 [] (coT 4096) (coT_list 4096) (all_co _) (by rw [List.length_replicate]; simp)
  rw [List.length_replicate, List.nil_append] at h
  exact h
theorem kn_e1 : runF 1 4096 (List.replicate 4096 ⟨3, 0⟩) ⟨#[99, 111, 108, 108, 101, 99, 116, 10, 115, 111, 117, 114, 99, 101, 10]⟩ = some (⟨#[]⟩, [], 3, 4096) := by
  have hc : cutF ⟨#[99, 111, 108, 108, 101, 99, 116, 10, 115, 111, 117, 114, 99, 101, 10]⟩ = (⟨#[99, 111, 108, 108, 101, 99, 116]⟩, ⟨#[115, 111, 117, 114, 99, 101, 10]⟩, true) := by kernel_rfl
  have hs : stepF ⟨#[99, 111, 108, 108, 101, 99, 116]⟩ 5 0 = (3, 0, 0) := by kernel_rfl
  have hns : ¬ ((⟨#[99, 111, 108, 108, 101, 99, 116]⟩ : ByteArray).toList = srcB.toList) := by rw [toList_data, toList_data]; decide
  unfold runF
  rw [hc]
  dsimp only
  rw [hs]
  dsimp only
  rw [if_neg (fun h => hns h.2), if_neg (by decide), if_pos (by rw [List.length_replicate]; exact Nat.le_refl _)]
theorem kn_e : script_Parse.f 4097 (coT 4097) = some (⟨#[]⟩, [], 3, 4096) := by
  unfold script_Parse.f
  rw [if_pos (by rw [coT_size]; omega)]
  have h := run_over (List.replicate 4096 ⟨3, 0⟩) 1 0 [] (coT 4097) [99, 111, 108, 108, 101, 99, 116, 10, 115, 111, 117, 114, 99, 101, 10] (by
    rw [coT_list, List.replicate_succ' (n := 4096), List.flatMap_append, List.append_assoc]
    rw [List.flatMap_singleton, co_line]
    rfl) (all_co _) (by rw [List.length_replicate]; simp) (by rw [List.length_replicate]; simp)
  rw [List.length_replicate, List.nil_append] at h
  exact h.trans kn_e1
theorem kn_n : printF ⟨#[]⟩ (List.replicate 4097 ⟨0, 0⟩) = (⟨#[]⟩, 3) := by
  unfold printF
  rw [if_pos (by
    rw [List.all_replicate]
    have : okD ⟨0, 0⟩ = true := by decide
    rw [this]; simp), if_pos (by rw [List.length_replicate]; decide)]
def xsB : ByteArray := ⟨(Lib.repeatL (⟨#[120]⟩ : ByteArray).data.toList 32769).toArray⟩
theorem xsB_size : xsB.size = 32769 := by
  unfold xsB
  show (Lib.repeatL _ _).toArray.size = _
  rw [List.size_toArray, Lib.repeatL_length]
  rfl
theorem kn_o : printF xsB [] = (⟨#[]⟩, 3) := by
  unfold printF
  rw [if_pos (show ([] : List S44).all okD = true from rfl), if_neg (by decide), if_pos (by rw [xsB_size]; decide)]
theorem flat_get {α : Type} (f : α → List Value) (sz : Nat) (hf : ∀ x, (f x).length = sz) : ∀ (l : List α) (j t : Nat) (x : α) (u : Value), l[j]? = some x → (f x)[t]? = some u → (l.flatMap f)[j * sz + t]? = some u
  | [], j, t, x, u, h, _ => by simp at h
  | y :: l, 0, t, x, u, h, hu => by
    obtain rfl : y = x := by simpa using h
    have ht := (List.getElem?_eq_some_iff.1 hu).1
    rw [List.flatMap_cons, Nat.zero_mul, Nat.zero_add, List.getElem?_append_left ht]
    exact hu
  | y :: l, j + 1, t, x, u, h, hu => by
    have hj : l[j]? = some x := by simpa using h
    rw [List.flatMap_cons, List.getElem?_append_right (by rw [hf, Nat.add_mul]; omega), hf, show (j + 1) * sz + t - sz = j * sz + t by rw [Nat.add_mul]; omega]
    exact flat_get f sz hf l j t x u hj hu
theorem C_of_blk {α : Type} (d : Kd α) (f : α → List Value) {W : World} {b : Nat} {e : TypeId} {cs : Array Value} {l : List α} (h : W.heap[b]? = some (.cells cs e (0, 0))) (hcs : cs.toList = l.flatMap f) (hf : ∀ x, (f x).length = d.sz) (hk : ∀ x ∈ l, d.K W x (f x)) (hl : l.length ≤ 1000000) :
    Kd.C d W (some ⟨b, 0, none⟩) l.length l := by
  refine ⟨rfl, by omega, fun _ => ⟨_, rfl, fun j x hj => ⟨f x, hf x, hk x (List.mem_of_getElem? hj), fun t u hu => ?_⟩⟩⟩
  rw [add_at, Nat.zero_add, blk_cell h]
  have h2 := flat_get f d.sz hf l j t x u hj hu
  rw [← hcs] at h2
  simpa using h2
def e44 (x : S44) : List Value := [.int .i64 x.f0, .int .i64 x.f1]
theorem C44b {W : World} {b : Nat} {cs : Array Value} {l : List S44} (h : W.heap[b]? = some (.cells cs 44 (0, 0))) (hcs : cs.toList = l.flatMap e44) (hl : l.length ≤ 1000000) : Kd.C k44 W (some ⟨b, 0, none⟩) l.length l := C_of_blk k44 e44 h hcs (fun _ => rfl) (fun x _ => k44_mk W x) hl
theorem kn1 : ((List.range 16).all fun i => knOk (knT.getD i ⟨#[]⟩) (knL.getD i 0)) = true := by kernel_rfl
theorem kn_row {i : Nat} (h : i < 16) : ∃ T zs, script_Parse.f 4 (knT.getD i ⟨#[]⟩) = some (T, zs, 4, knL.getD i 0) := by
  have := List.all_eq_true.1 kn1 i (List.mem_range.mpr h)
  generalize knT.getD i ⟨#[]⟩ = t at this ⊢
  generalize knL.getD i 0 = l at this ⊢
  unfold knOk at this
  split at this
  · rename_i T zs c af heq
    simp only [Bool.and_eq_true, beq_iff_eq] at this
    exact ⟨T, zs, by rw [heq, this.1.2, this.2]⟩
  · cases this
def knC : List Value := knT.map Value.string
def knD : List Value := knL.map (Value.int .i64)
theorem knC_at {i : Nat} (h : i < 16) : knC[i]? = some (.string (knT.getD i ⟨#[]⟩)) := by
  have h2 : i < knT.length := h
  unfold knC
  rw [List.getElem?_map, List.getElem?_eq_getElem h2, List.getD_eq_getElem?_getD, List.getElem?_eq_getElem h2]
  rfl
theorem knD_at {i : Nat} (h : i < 16) : knD[i]? = some (.int .i64 (knL.getD i 0)) := by
  have h2 : i < knL.length := h
  unfold knD
  rw [List.getElem?_map, List.getElem?_eq_getElem h2, List.getD_eq_getElem?_getD, List.getElem?_eq_getElem h2]
  rfl
end Go.Proofs.YtnombbcgdfgadaaDoor.G
end
