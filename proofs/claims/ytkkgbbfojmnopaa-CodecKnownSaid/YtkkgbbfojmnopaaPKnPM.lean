import Derived.Test.YtkkgbbfojmnopaaPKnPJ
import Derived.Test.YtkkgbbfojmnopaaPKnGx0
import Derived.Test.YtkkgbbfojmnopaaPKnE11
import Derived.Test.YtkkgbbfojmnopaaPKnRB
import Derived.Test.YtkkgbbfojmnopaaPKnGxF10
import Derived.Test.YtkkgbbfojmnopaaPKnGxF17
import Derived.Test.YtkkgbbfojmnopaaPKnGxF12
import Derived.Test.YtkkgbbfojmnopaaPKnGxF8
set_option linter.unusedVariables false
set_option linter.unusedSimpArgs false
section
namespace Go.Proofs.Ytkkgbbfojmnopaa.Z
open Go.RowKit Go.Proofs.Ytkkgbbfojmnopaa.G Go.Proofs.YtkkgbbfojmnopaaW.PrintWords Go.Proofs.YtkkgbbfojmnopaaW.PrintLast Go.Proofs.YtkkgbbfojmnopaaW.PrintMore
set_option linter.unusedVariables false
set_option linter.unusedSimpArgs false
theorem okC_eq (c : S42) : okC c = ((decide (c.f0 = 3) && decide (c.f2.data.toList = [])) || (decide (c.f0 = 5) && decide (c.f1 = 0))) := by
  unfold okC
  rw [ByteArray.toList_eq]
def okC2 (c : S42) : Bool := (decide (c.f0 = 3) && decide (c.f2.data.toList = [])) || (decide (c.f0 = 5) && decide (c.f1 = 0))
theorem okC_fun : okC = okC2 := funext fun c => okC_eq c
def protoS2 (p0 p1 : Int) (ups : List S50) (cs : List S42) (code : List S52) (first : Bool) (protos : Int) : Int :=
  if p0 < 0 ∨ p1 < 0 then 2 else if p0 > 20 ∨ p1 > 250 ∨ ups.length > 60 ∨ cs.length > 4096 ∨ code.length > 16384 then 3 else if p0 > p1 ∨ (first = true ∧ ups.length > 0) then 2
  else if ups.all okU = true then (if cs.all okC2 = true then (if cs.all smC = true then (if code.length = 0 then 2 else if code.all (okI p1 ups cs code protos) = true then 0 else 2) else 3) else 2) else 2
theorem protoS_two (p0 p1 : Int) (ups : List S50) (cs : List S42) (code : List S52) (first : Bool) (protos : Int) : protoS p0 p1 ups cs code first protos = protoS2 p0 p1 ups cs code first protos := by
  unfold protoS protoS2
  rw [okC_fun]
def goS2 (n : Nat) : List S47 → Nat → Int
  | [], _ => 0
  | x :: r, i => let e := protoS2 x.f0 x.f1 x.f2 x.f3 x.f4 (i == 0) n; if e = 0 then goS2 n r (i + 1) else e
theorem go_two (l : List S47) : ∀ (r : List S47) (i : Nat), checkS.go l r i = goS2 l.length r i
  | [], _ => rfl
  | x :: r, i => by
    rw [checkS.go, goS2, protoS_two, go_two l r (i + 1)]
def checkS2 (l : List S47) : Int := if l.length = 0 then 2 else if l.length > 256 then 3 else goS2 l.length l 0
theorem check_two (l : List S47) : checkS l = checkS2 l := by
  unfold checkS checkS2
  rw [go_two]
def wholeC : List S42 := [⟨3, -1, ⟨#[]⟩⟩, ⟨3, 64, ⟨#[]⟩⟩, ⟨5, 0, ⟨#[97]⟩⟩, ⟨3, -9223372036854775808, ⟨#[]⟩⟩, ⟨5, 0, ⟨#[]⟩⟩]
def wholeL : List S47 := leastL wholeC ++ [⟨1, 2, [⟨true, 0⟩, ⟨false, 5⟩], [], [⟨20, 0, 0⟩]⟩]
def wholeB : List UInt8 := [2, 0, 1, 0, 5, 0, 1, 0, 128, 1, 1, 1, 97, 0, 255, 255, 255, 255, 255, 255, 255, 255, 255, 1, 1, 0, 2, 0, 0, 0, 19, 0, 0, 1, 2, 2, 1, 0, 0, 5, 0, 1, 20, 0, 0]
theorem whole_check : checkS wholeL = 0 := by rw [check_two]; decide +kernel
theorem whole_enc : progE wholeL = wholeB := by decide +kernel
theorem whole_in : inP wholeL := by
  intro q hq c hc
  simp only [wholeL, leastL, List.cons_append, List.nil_append, List.mem_cons, List.not_mem_nil, or_false] at hq
  rcases hq with rfl | rfl
  · simp only [wholeC, List.mem_cons, List.not_mem_nil, or_false] at hc
    rcases hc with rfl | rfl | rfl | rfl | rfl <;> exact ⟨by decide, by decide⟩
  · cases hc
theorem wholeE : encS wholeL = (⟨wholeB.toArray⟩, 0) := by
  unfold encS
  rw [whole_check, if_pos rfl, whole_enc, if_neg (by decide)]
theorem wholeD : decS ⟨wholeB.toArray⟩ = (wholeL, 0) := dec_yes (by decide +kernel) (by rw [whole_enc]) whole_check whole_in
def decS2 (s : ByteArray) : Int := if s.size ≤ 262144 then match (Cod.list 256 (by decide) codP).dec s.data.toList with
    | some (l, []) => if checkS2 l = 0 then 0 else 4
    | _ => 4
  else 4
theorem dec_two (s : ByteArray) : (decS s).2 = decS2 s := by
  unfold decS decS2
  by_cases h : s.size ≤ 262144
  · rw [if_pos h, if_pos h]
    cases (Cod.list 256 (by decide) codP).dec s.data.toList with
    | none => rfl
    | some y =>
      obtain ⟨l, r⟩ := y
      cases r with
      | cons a t => rfl
      | nil =>
        simp only
        rw [check_two]
        split <;> rfl
  · rw [if_neg h, if_neg h]
theorem dec_4 {s : ByteArray} (h : decS2 s = 4) : decS s = ([], 4) := by
  rcases dec_no (s := s) with e | ⟨l, e, _⟩
  · exact e
  · rw [← dec_two, e] at h
    cases h
def noneB : List ByteArray := [(⟨#[]⟩ : ByteArray), (⟨#[0]⟩ : ByteArray), (⟨#[1, 0, 1, 0, 0, 2, 0, 0, 0, 19, 0, 0]⟩ : ByteArray) ++ (⟨#[0]⟩ : ByteArray), (⟨#[1, 0, 1, 0, 0, 2, 0, 0, 0, 19, 0, 0]⟩ : ByteArray).extract 0 11, (⟨#[1, 0, 129, 0, 0, 0, 2, 0, 0, 0, 19, 0, 0]⟩ : ByteArray), (⟨#[1, 0, 0, 0, 0, 2, 0, 0, 0, 19, 0, 0]⟩ : ByteArray), (⟨#[1, 0, 1, 0, 0, 0]⟩ : ByteArray), (⟨#[1, 0, 1, 0, 1, 2, 0, 2, 0, 0, 0, 19, 0, 0]⟩ : ByteArray), (⟨#[1, 0, 1, 0, 1, 1, 5, 97, 2, 0, 0, 0, 19, 0, 0]⟩ : ByteArray), (⟨#[1, 0, 1, 1, 0, 0, 0, 2, 0, 0, 0, 19, 0, 0]⟩ : ByteArray), (⟨#[1, 0, 1, 0, 1, 0, 255, 255, 255, 255, 255, 255, 255, 255, 255, 2, 2, 0, 0, 0, 19, 0, 0]⟩ : ByteArray), (⟨#[1, 0, 1, 0, 0, 2, 0, 0, 0, 37, 0, 0]⟩ : ByteArray), (⟨#[129, 128, 128, 128, 128, 128, 128, 128, 128, 128, 1]⟩ : ByteArray)]
theorem none_all : ∀ s ∈ noneB, decS2 s = 4 := by
  intro s hs
  simp only [noneB, List.mem_cons, List.not_mem_nil, or_false] at hs
  rcases hs with rfl | rfl | rfl | rfl | rfl | rfl | rfl | rfl | rfl | rfl | rfl | rfl | rfl
  · decide +kernel
  · decide +kernel
  · decide +kernel
  · decide +kernel
  · decide +kernel
  · decide +kernel
  · decide +kernel
  · decide +kernel
  · decide +kernel
  · decide +kernel
  · decide +kernel
  · decide +kernel
  · decide +kernel
end Go.Proofs.Ytkkgbbfojmnopaa.Z
end
