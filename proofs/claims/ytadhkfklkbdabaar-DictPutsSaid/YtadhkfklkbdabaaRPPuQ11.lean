import Derived.Deep.RegionLaw
import Derived.Deep.Cut
import Derived.WalkSpells
import Derived.Maps.OwnOps
import Derived.Maps.OwnSet
import Derived.Maps.Views
import Derived.Maps.Own
import Derived.DeepKeys5
import Derived.Outline
import Derived.Deep.AppendLies
import Derived.Laws.CopyRow
import Derived.Laws.CopyOwn
import Derived.StillTailTactics
import Derived.Test.YtadhkfklkbdabaaRPPuQ10
import Derived.Test.YtadhkfklkbdabaaRPPuGx0
import Derived.Test.YtadhkfklkbdabaaRPPuGxF10
import Derived.Test.YtadhkfklkbdabaaRPPuGxF14
set_option linter.unusedVariables false
set_option linter.unusedSimpArgs false
section
namespace Go.Proofs.YtadhkfklkbdabaaR.G
open Go.RowKit Go.Proofs.YtadhkfklkbdabaaRW.PrintWords Go.Proofs.YtadhkfklkbdabaaRW.PrintLast Go.Proofs.YtadhkfklkbdabaaRW.PrintMore
set_option linter.unusedVariables false
set_option linter.unusedSimpArgs false
theorem gone_len (a q : List S24) (k v : S24) : (changeS a q k v).2.2.length ≤ 3 := by
 unfold changeS
 by_cases h : placedB k a.length = true
 ·rw [if_pos h]; exact Nat.le_trans (refsL_len _) (by simp)
 ·rw [if_neg h]
  cases hi : idxP k q 0 with
  | some i =>
   by_cases hn : nullB v = true
   ·simp only [if_pos hn]; exact Nat.le_trans (refsL_len _) (by simp)
   ·simp only [if_neg hn]; exact Nat.le_trans (refsL_len _) (by simp)
  | none =>
   by_cases hn : nullB v = true
   ·simp only [if_pos hn]; exact Nat.le_trans (refsL_len _) (by simp)
   ·simp only [if_neg hn]
    by_cases hp : placedB k (a.length + 1) = true
    ·rw [if_pos hp]; simp
    ·rw [if_neg hp]; simp
def may46 (x : S46) : Bool := H.mayB x.f0.f0 x.f0.f1 && (H.mayB x.f1.f0 x.f1.f1 && !(x.f1.f0 == 0))
def good46 (x : S46) : Bool := may46 x && keyB x.f0
def lastV (L : List S46) (k : S24) : S24 := L.foldl (fun w x => if (good46 x && sameV x.f0 k) = true then x.f1 else w) ⟨1, 0⟩
def two46 (x : S46) : List S24 := if good46 x = true then [x.f0, x.f1] else []
def allL (L : List S46) : List S24 := L.flatMap two46
theorem lastV_snoc (L : List S46) (x : S46) (k : S24) : lastV (L ++ [x]) k = if (good46 x && sameV x.f0 k) = true then x.f1 else lastV L k := by unfold lastV; rw [List.foldl_append]; rfl
theorem allL_snoc (L : List S46) (x : S46) : allL (L ++ [x]) = allL L ++ two46 x := by unfold allL; rw [List.flatMap_append]; simp
theorem take46 {L : List S46} {i : Nat} (h : i < L.length) : L.take (i + 1) = L.take i ++ [rd_T46 L (i : Int)] := by
 rw [List.take_add_one]
 unfold rd_T46
 rw [Int.toNat_natCast, List.getD_eq_getElem?_getD, List.getElem?_eq_getElem h]; rfl
structure TI (L : List S46) (i : Nat) (a : List S24) (P : List (S24 × S24)) (out : List S24) : Prop where
 tok : TOk a P
 av : AllV a P
 len : a.length + 2 * P.length ≤ 2 * i
 sm : ∀ k, sem a P k = lastV (L.take i) k
 wt : ∀ W : S24 → Nat, (∀ x, refB x = false → W x = 0) → wA W (allL (L.take i)) = wA W a + wP W P + wA W out
 ol : out.length ≤ 3 * i
theorem TI.skip {L : List S46} {i : Nat} {a : List S24} {P : List (S24 × S24)} {out : List S24} (h : TI L i a P out) (hi : i < L.length) (hg : good46 (rd_T46 L (i : Int)) = false) : TI L (i + 1) a P out := by
 refine ⟨h.tok, h.av, by have := h.len; omega, fun k => ?_, fun W hW => ?_, by have := h.ol; omega⟩
 ·rw [take46 hi, lastV_snoc, hg, Bool.false_and, if_neg (by decide)]; exact h.sm k
 ·rw [take46 hi, allL_snoc, two46, hg, if_neg (by decide), List.append_nil]; exact h.wt W hW
theorem TI.put {L : List S46} {i : Nat} {a a' : List S24} {P P' : List (S24 × S24)} {out g : List S24} (h : TI L i a P out) (hi : i < L.length) (hi2 : i ≤ 1000) (hg : good46 (rd_T46 L (i : Int)) = true) (hk : inV (rd_T46 L (i : Int)).f0 = true) (hv : inV (rd_T46 L (i : Int)).f1 = true)
  (hp : PutOk a P (rd_T46 L (i : Int)).f0 (rd_T46 L (i : Int)).f1 a' P' g) (hlen : a'.length + 2 * P'.length ≤ a.length + 2 * P.length + 2) (hgl : g.length ≤ 3) : TI L (i + 1) a' P' (out ++ g) := by
 have hl := h.len
 refine ⟨hp.tok, put_in h.av hk hv hp (by omega) (by omega), by omega, fun k => ?_, fun W hW => ?_, by rw [List.length_append]; have := h.ol; omega⟩
 ·rw [take46 hi, lastV_snoc, hg, Bool.true_and, hp.sm k, h.sm k, sameV_comm]
 ·rw [take46 hi, allL_snoc, two46, hg, if_pos rfl, wA_append, wA_append, h.wt W hW]
  have := hp.wt W hW
  show wA W a + wP W P + wA W out + (W (rd_T46 L (i : Int)).f0 + (W (rd_T46 L (i : Int)).f1 + 0)) = _
  omega
theorem TOk.nil : TOk [] [] := ⟨⟨fun x hx => by (cases hx), fun x hx => by (cases hx), List.nodup_nil, fun n hn => by (cases hn)⟩, fun x hx => by (cases hx)⟩
end Go.Proofs.YtadhkfklkbdabaaR.G
end
