import Derived.Test.YtkkgbbfojmnopaaPReGx0
import Derived.Test.YtkkgbbfojmnopaaPReGxF50
import Derived.Test.YtkkgbbfojmnopaaPReGxF28
import Derived.Test.YtkkgbbfojmnopaaPReGxF51
set_option linter.unusedVariables false
set_option linter.unusedSimpArgs false
section
namespace Go.Proofs.Ytkkgbbfojmnopaa.G
open Go.RowKit Go.Proofs.YtkkgbbfojmnopaaW.PrintWords Go.Proofs.YtkkgbbfojmnopaaW.PrintLast Go.Proofs.YtkkgbbfojmnopaaW.PrintMore
attribute [local go_sem] q26q q27q q34q q35q q22q q23q q28q q29q
mutual
def fQ0.l0 : Nat → Int → Int → ByteArray → Bool → Int → Int → List (S50) → Option (Int × Int × (List (S50)) × (List (S42)) × (List (S52)) × ByteArray × Bool)
 | 0, _, _, _, _, _, _, _ => none
 | k + 1, x4, x5, x1000, x1001, x341000, x341001, x341002 => if x5 < x4 then (fQ0.j1 k x4 x5 (!x1001) x1000 x1001 x341000 x341001 x341002) else (fQ0.j1 k x4 x5 false x1000 x1001 x341000 x341001 x341002)
def fQ0.j1 : Nat → Int → Int → Bool → ByteArray → Bool → Int → Int → List (S50) → Option (Int × Int × (List (S50)) × (List (S42)) × (List (S52)) × ByteArray × Bool)
 | 0, _, _, _, _, _, _, _, _ => none
 | k + 1, x4, x5, x27, x1000, x1001, x341000, x341001, x341002 => if x27 = true then ((fQ3.f k x1000 x1001 1).bind fun bt347 => ((fQ3.f k bt347.2.1 bt347.2.2 250).bind fun bt350 => (if x341002.length < 8796093022208 then (fQ0.l0 k x4 (wrap64 (x5 + 1)) bt350.2.1 bt350.2.2 x341000 x341001 (x341002 ++ [(⟨(bt347.1 == 1), bt350.1⟩ : S50)])) else (none)))) else ((fQ3.f k x1000 x1001 4096).bind fun bt356 => (fQ0.l1 k bt356.1 0 bt356.2.1 bt356.2.2 x341000 x341001 x341002 ([] : List (S42))))
def fQ0.j3 : Nat → ByteArray → Bool → Int → Int → List (S50) → List (S42) → Option (Int × Int × (List (S50)) × (List (S42)) × (List (S52)) × ByteArray × Bool)
 | 0, _, _, _, _, _, _ => none
 | k + 1, x1000, x1001, x341000, x341001, x341002, x341003 => (fQ3.f k x1000 x1001 16384).bind fun bt367 => (fQ0.l2 k bt367.1 0 bt367.2.1 bt367.2.2 x341000 x341001 x341002 x341003 ([] : List (S52)))
def fQ0.l2 : Nat → Int → Int → ByteArray → Bool → Int → Int → List (S50) → List (S42) → List (S52) → Option (Int × Int × (List (S50)) × (List (S42)) × (List (S52)) × ByteArray × Bool)
 | 0, _, _, _, _, _, _, _, _, _ => none
 | k + 1, x4, x8, x1000, x1001, x341000, x341001, x341002, x341003, x341004 => if x8 < x4 then (fQ0.j5 k x4 x8 (!x1001) x1000 x1001 x341000 x341001 x341002 x341003 x341004) else (fQ0.j5 k x4 x8 false x1000 x1001 x341000 x341001 x341002 x341003 x341004)
def fQ0.j5 : Nat → Int → Int → Bool → ByteArray → Bool → Int → Int → List (S50) → List (S42) → List (S52) → Option (Int × Int × (List (S50)) × (List (S42)) × (List (S52)) × ByteArray × Bool)
 | 0, _, _, _, _, _, _, _, _, _, _ => none
 | k + 1, x4, x8, x74, x1000, x1001, x341000, x341001, x341002, x341003, x341004 => if x74 = true then ((fQ3.f k x1000 x1001 36).bind fun bt370 => ((fQ3.f k bt370.2.1 bt370.2.2 250).bind fun bt374 => ((fQ3.f k bt374.2.1 bt374.2.2 16384).bind fun bt377 => (if x341004.length < 5864062014805 then (fQ0.l2 k x4 (wrap64 (x8 + 1)) bt377.2.1 bt377.2.2 x341000 x341001 x341002 x341003 (x341004 ++ [(⟨bt370.1, bt374.1, bt377.1⟩ : S52)])) else (none))))) else (some (x341000, x341001, x341002, x341003, x341004, x1000, x1001))
def fQ0.l1 : Nat → Int → Int → ByteArray → Bool → Int → Int → List (S50) → List (S42) → Option (Int × Int × (List (S50)) × (List (S42)) × (List (S52)) × ByteArray × Bool)
 | 0, _, _, _, _, _, _, _, _ => none
 | k + 1, x4, x7, x1000, x1001, x341000, x341001, x341002, x341003 => if x7 < x4 then (if x1001 = true then (fQ0.j3 k x1000 x1001 x341000 x341001 x341002 x341003) else ((fQ18.f k x1000 x1001).bind fun bt359 => (if x341003.length < 4398046511104 then (fQ0.l1 k x4 (wrap64 (x7 + 1)) bt359.2.2.2.1 bt359.2.2.2.2 x341000 x341001 x341002 (x341003 ++ [(⟨bt359.1, bt359.2.1, bt359.2.2.1⟩ : S42)])) else (none)))) else (fQ0.j3 k x1000 x1001 x341000 x341001 x341002 x341003)
end
def fQ0.f (k : Nat) (s0_0 : ByteArray) (s0_1 : Bool) : Option (Int × Int × (List (S50)) × (List (S42)) × (List (S52)) × ByteArray × Bool) := (fQ3.f k s0_0 s0_1 20).bind fun bt337 => ((fQ3.f k bt337.2.1 bt337.2.2 250).bind fun bt341 => ((fQ3.f k bt341.2.1 bt341.2.2 60).bind fun bt344 => (fQ0.l0 k bt344.1 0 bt344.2.1 bt344.2.2 bt337.1 bt341.1 ([] : List (S50)))))
end Go.Proofs.Ytkkgbbfojmnopaa.G
end
