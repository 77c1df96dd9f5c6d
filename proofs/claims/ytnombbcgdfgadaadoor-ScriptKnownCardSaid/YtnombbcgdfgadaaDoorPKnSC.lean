import Derived.LaidMore
import Derived.LaidHandle
import Derived.Stop.Joined
import Derived.Lib.IfaceEq
import Derived.Lib.ItoaLen
import Derived.Shelf.Strings.MapGrows
import Derived.Shelf.Abstract
import Derived.LaidEql
import Derived.Stop.Asserts
import Derived.RowKitTokens
import Derived.Lib.LaidTab
import Derived.Lib.AppendIntMem
import Derived.Stop.LaidErr
import Derived.WalkKit
import Derived.Deep.RegionLaw
import Derived.Deep.Cut
import Derived.WalkSpells
import Derived.Test.YtnombbcgdfgadaaDoorPKnR
import Derived.Test.YtnombbcgdfgadaaDoorPKnOW
import Derived.Test.YtnombbcgdfgadaaDoorPKnGx0
import Derived.Test.YtnombbcgdfgadaaDoorPKnGxE44
import Derived.Lib.Hide
set_option linter.unusedVariables false
set_option linter.unusedSimpArgs false
section
namespace Go.Proofs.YtnombbcgdfgadaaDoor.G
open Go.Shelf Go.Extern.Stop Go.Stop Go.Extern Go.RowKit Go.Proofs.YtnombbcgdfgadaaDoorW.PrintWords Go.Proofs.YtnombbcgdfgadaaDoorW.PrintLast Go.Proofs.YtnombbcgdfgadaaDoorW.PrintMore
set_option linter.unusedVariables false
set_option linter.unusedSimpArgs false
theorem repeat_any (s : ByteArray) (c : Nat) (w : World) (hc : c ≤ 9223372036854775807) (hlen : s.size * c ≤ 140737488355328) :
    Calls Tryd.prog 16 #[.string s, .int .i64 c] w fun e w' => e = .returned (.string ⟨(Lib.repeatL s.data.toList c).toArray⟩) ∧ Below w.heap.size w w' := Any.strings_Repeat Tryd.lays105 Tryd.Builder_Extra_105 s c w hc hlen
theorem indexByte_app : ∀ (l r : List UInt8), (∀ c ∈ l, c ≠ 10) → Lib.indexByte (l ++ 10 :: r) 10 = l.length
  | [], r, _ => by rw [List.nil_append, indexByte_cons, if_pos rfl]; rfl
  | c :: l, r, h => by
    rw [List.cons_append, indexByte_cons, if_neg (h c (List.mem_cons_self ..)), indexByte_app l r (fun d hd => h d (List.mem_cons_of_mem _ hd)), if_neg (by omega), List.length_cons]
    omega
theorem cut_line (t : ByteArray) (l r : List UInt8) (h : ∀ c ∈ l, c ≠ 10) (ht : t.data.toList = l ++ 10 :: r) : cutF t = (⟨l.toArray⟩, ⟨r.toArray⟩, true) := by
  unfold cutF
  rw [ht, indexByte_app l r h, if_pos (by omega)]
  have e1 : t.extract 0 ((l.length : Int)).toNat = ⟨l.toArray⟩ := by
    apply ba_ext
    rw [ext_list, List.drop_zero, ht, Int.toNat_natCast, Nat.sub_zero, List.take_left]
  have e2 : t.extract ((l.length : Int) + 1).toNat t.size = ⟨r.toArray⟩ := by
    apply ba_ext
    rw [ext_drop, ht, show ((l.length : Int) + 1).toNat = (l ++ [10]).length by rw [List.length_append]; simp, show l ++ 10 :: r = (l ++ [10]) ++ r by simp, List.drop_left]
  rw [e1, e2]
theorem src_no : ∀ c ∈ ([115, 111, 117, 114, 99, 101] : List UInt8), c ≠ 10 := by decide
attribute [local go_sem high] eqA44
end Go.Proofs.YtnombbcgdfgadaaDoor.G
end
