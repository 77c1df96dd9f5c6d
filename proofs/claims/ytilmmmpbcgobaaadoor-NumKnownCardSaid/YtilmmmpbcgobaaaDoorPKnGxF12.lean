import Derived.Test.YtilmmmpbcgobaaaDoorPKnGx0
import Derived.Test.YtilmmmpbcgobaaaDoorPKnGxF13
import Derived.Test.YtilmmmpbcgobaaaDoorPKnGxF16
import Derived.Test.YtilmmmpbcgobaaaDoorPKnGxF18
import Derived.Test.YtilmmmpbcgobaaaDoorPKnGxF20
import Derived.Test.YtilmmmpbcgobaaaDoorPKnGxF15
import Derived.Test.YtilmmmpbcgobaaaDoorPKnGxF21
import Derived.Test.YtilmmmpbcgobaaaDoorPKnGxF23
set_option linter.unusedVariables false
set_option linter.unusedSimpArgs false
section
namespace Go.Proofs.YtilmmmpbcgobaaaDoor.G
open Go.RowKit Go.Proofs.YtilmmmpbcgobaaaDoorW.PrintWords Go.Proofs.YtilmmmpbcgobaaaDoorW.PrintLast Go.Proofs.YtilmmmpbcgobaaaDoorW.PrintMore
attribute [local go_sem] max2_int min2_int max_two min_two max_three min_three max_four min_four
set_option linter.unusedVariables false
set_option linter.unusedSimpArgs false
structure S39 where
  f0 : Int
  f1 : Int
  f2 : Int
  f3 : Int
def z39 : S39 := ⟨(0 : Int), (0 : Int), (0 : Int), (0 : Int)⟩
def k39 : Kd S39 := Kd.iso (Kd.pair (Kd.int .i64) (Kd.pair (Kd.int .i64) (Kd.pair (Kd.int .i64) (Kd.int .i64)))) (fun x : S39 => (x.f0, x.f1, x.f2, x.f3))
theorem k39_open {w : World} {x : S39} {cs : List Value} (h : k39.K w x cs) : cs = [.int .i64 x.f0, .int .i64 x.f1, .int .i64 x.f2, .int .i64 x.f3] := by
  obtain ⟨_, _, rfl, rfl, ⟨_, _, rfl, rfl, ⟨_, _, rfl, rfl, rfl⟩⟩⟩ := h
  exact rfl
theorem k39_mkM (w : World) (base : Nat) (ok : Nat → Prop) (x : S39)  : k39.M w base ok x [.int .i64 x.f0, .int .i64 x.f1, .int .i64 x.f2, .int .i64 x.f3] := ⟨[.int .i64 x.f0], [.int .i64 x.f1, .int .i64 x.f2, .int .i64 x.f3], rfl, rfl, ⟨[.int .i64 x.f1], [.int .i64 x.f2, .int .i64 x.f3], rfl, rfl, ⟨[.int .i64 x.f2], [.int .i64 x.f3], rfl, rfl, rfl⟩⟩⟩
def rd_T39 (xs : List S39) (i : Int) : S39 := xs.getD i.toNat z39
theorem at_T39 {w : World} {A : Option Addr} {n : Nat} {xs : List S39} (h : Kd.C k39 w A n xs) (i : Int) (h0 : 0 ≤ i) (h1 : i < n) : ∃ ad , A = some ad ∧ w.cell? (ad.add (i.toNat * 4)) = some (.int .i64 (rd_T39 xs i).f0) ∧ w.cell? ⟨(ad.add (i.toNat * 4)).block, (ad.add (i.toNat * 4)).off + 1, none⟩ = some (.int .i64 (rd_T39 xs i).f1) ∧ w.cell? ⟨(ad.add (i.toNat * 4)).block, (ad.add (i.toNat * 4)).off + 2, none⟩ = some (.int .i64 (rd_T39 xs i).f2) ∧ w.cell? ⟨(ad.add (i.toNat * 4)).block, (ad.add (i.toNat * 4)).off + 3, none⟩ = some (.int .i64 (rd_T39 xs i).f3) := by
  obtain ⟨ad, c, e, _, hK, hc0⟩ := Kd.C_get h z39 i h0 h1
  have hc : ∀ j u, c[j]? = some u → w.cell? (ad.add (i.toNat * 4 + j)) = some u := hc0
  obtain rfl := k39_open hK
  exact ⟨ad, e, hc 0 _ rfl, by rw [← add_field _ _ 1 (by omega)]; exact hc 1 _ rfl, by rw [← add_field _ _ 2 (by omega)]; exact hc 2 _ rfl, by rw [← add_field _ _ 3 (by omega)]; exact hc 3 _ rfl⟩
mutual
def tallowlaw01_NumKnown.l0 : Nat → List (S39) → Int → Option (Bool)
  | 0, _, _ => none
  | k + 1, x1, x2 => if x2 < (x1.length : Int) then (if 0 ≤ x2 then ((tallowlaw01_do.f ((rd_T39 x1 x2).f0) ((rd_T39 x1 x2).f1) ((rd_T39 x1 x2).f2)).bind fun t156 => (if t156 = ((rd_T39 x1 x2).f3) then (tallowlaw01_NumKnown.l0 k x1 (wrap64 (x2 + 1))) else (some false))) else (none)) else ((some (([(⟨#[48, 49]⟩ : ByteArray), (⟨#[45, 48]⟩ : ByteArray), (⟨#[]⟩ : ByteArray), (⟨#[45]⟩ : ByteArray), (⟨#[43, 49]⟩ : ByteArray), (⟨#[48, 48, 48, 48, 48, 48, 48, 48, 48, 48, 48, 48, 48, 48, 48, 48, 48, 48, 48, 48, 48, 48, 48]⟩ : ByteArray), (⟨#[49, 32]⟩ : ByteArray), (⟨#[32, 49]⟩ : ByteArray), (⟨#[45, 45, 49]⟩ : ByteArray), (⟨#[49, 97]⟩ : ByteArray), (⟨#[57, 50, 50, 51, 51, 55, 50, 48, 51, 54, 56, 53, 52, 55, 55, 53, 56, 48, 56]⟩ : ByteArray), (⟨#[45, 57, 50, 50, 51, 51, 55, 50, 48, 51, 54, 56, 53, 52, 55, 55, 53, 56, 48, 57]⟩ : ByteArray), (⟨#[57, 57, 57, 57, 57, 57, 57, 57, 57, 57, 57, 57, 57, 57, 57, 57, 57, 57, 57, 57, 57, 57, 57, 57, 57, 57]⟩ : ByteArray)] : List ByteArray) : List ByteArray)).bind fun y158 => (tallowlaw01_NumKnown.l1 k y158 (y158.length : Int) 0))
def tallowlaw01_NumKnown.l1 : Nat → List ByteArray → Int → Int → Option (Bool)
  | 0, _, _, _ => none
  | k + 1, x82, x83, x84 => if x84 < x83 then (if 0 ≤ x84 then (if x84 < (x82.length : Int) then (if x84 > 9 then ((num_Parse.f (rdOf ByteArray.empty x82 x84)).bind fun bt162 => (if bt162.1 = 0 then (if bt162.2 = 15 then (tallowlaw01_NumKnown.l1 k x82 x83 (wrap64 (x84 + 1))) else (some false)) else (some false))) else ((num_Parse.f (rdOf ByteArray.empty x82 x84)).bind fun bt164 => (if bt164.1 = 0 then (if bt164.2 = 4 then (tallowlaw01_NumKnown.l1 k x82 x83 (wrap64 (x84 + 1))) else (some false)) else (some false)))) else (none)) else (none)) else ((num_Parse.f (⟨#[45, 57, 50, 50, 51, 51, 55, 50, 48, 51, 54, 56, 53, 52, 55, 55, 53, 56, 48, 56]⟩ : ByteArray)).bind fun bt166 => ((num_Parse.f (⟨#[57, 50, 50, 51, 51, 55, 50, 48, 51, 54, 56, 53, 52, 55, 55, 53, 56, 48, 55]⟩ : ByteArray)).bind fun bt168 => ((num_Parse.f (⟨#[48]⟩ : ByteArray)).bind fun bt170 => ((num_Do.f 10 1 1).bind fun bt172 => ((num_Do.f (-1) 1 0).bind fun bt174 => ((num_Do.f 4 1 0).bind fun bt176 => (tallowlaw01_NumKnown.l2 k bt166.1 bt166.2 bt168.1 bt168.2 bt170.1 bt170.2 bt172.2 bt174.2 bt176.2 (⟨#[]⟩ : ByteArray) (-1))))))))
def tallowlaw01_NumKnown.l2 : Nat → Int → Int → Int → Int → Int → Int → Int → Int → Int → ByteArray → Int → Option (Bool)
  | 0, _, _, _, _, _, _, _, _, _, _, _ => none
  | k + 1, x8, x9, x10, x11, x12, x13, x15, x17, x19, x20, x21 => if x21 ≤ 10 then ((num_Sign.f x21).bind fun t178 => (if x20.size + t178.size ≤ 9223372036854775807 then (if (x20 ++ t178).size + 1 ≤ 9223372036854775807 then (tallowlaw01_NumKnown.l2 k x8 x9 x10 x11 x12 x13 x15 x17 x19 ((x20 ++ t178) ++ (⟨#[32]⟩ : ByteArray)) (wrap64 (x21 + 1))) else (none)) else (none))) else (if x8 = (-9223372036854775808) then (if x9 = 0 then (if x10 = 9223372036854775807 then (if x11 = 0 then (if x12 = 0 then (if x13 = 0 then (if x15 = 2 then (if x17 = 2 then (if x19 = 8 then (if x20.toList = ([32, 43, 32, 45, 32, 42, 32, 47, 47, 32, 37, 32, 38, 32, 124, 32, 126, 32, 60, 60, 32, 62, 62, 32, 32] : List UInt8) then ((num_Op.f (⟨#[126]⟩ : ByteArray)).bind fun t179 => (if t179 = 7 then ((num_Op.f (⟨#[47]⟩ : ByteArray)).bind fun t180 => (if t180 = (-1) then ((num_Op.f (⟨#[]⟩ : ByteArray)).bind fun t181 => (if t181 = (-1) then ((num_Text.f (-9223372036854775808)).bind fun t182 => (if t182.toList = ([45, 57, 50, 50, 51, 51, 55, 50, 48, 51, 54, 56, 53, 52, 55, 55, 53, 56, 48, 56] : List UInt8) then ((num_Text.f 0).bind fun t183 => (if t183.toList = ([48] : List UInt8) then ((tallowlaw01_works.f).bind fun t184 => (some t184)) else (some false))) else (some false))) else (some false))) else (some false))) else (some false))) else (some false)) else (some false)) else (some false)) else (some false)) else (some false)) else (some false)) else (some false)) else (some false)) else (some false)) else (some false))
end
def tallowlaw01_NumKnown.f (k : Nat)  : Option (Bool) := tallowlaw01_NumKnown.l0 k (([(⟨3, 7, 2, 3⟩ : S39), (⟨3, (-7), 2, (-4)⟩ : S39), (⟨3, 7, (-2), (-4)⟩ : S39), (⟨3, (-7), (-2), 3⟩ : S39), (⟨3, (-9223372036854775808), (-1), (-9223372036854775808)⟩ : S39), (⟨3, 6, (-3), (-2)⟩ : S39), (⟨3, (-9223372036854775808), 1, (-9223372036854775808)⟩ : S39), (⟨3, 9223372036854775807, (-9223372036854775808), (-1)⟩ : S39), (⟨4, 7, 3, 1⟩ : S39), (⟨4, (-7), 3, 2⟩ : S39), (⟨4, 7, (-3), (-2)⟩ : S39), (⟨4, (-7), (-3), (-1)⟩ : S39), (⟨4, 5, (-1), 0⟩ : S39), (⟨4, (-9223372036854775808), (-1), 0⟩ : S39), (⟨8, 1, 63, (-9223372036854775808)⟩ : S39), (⟨8, 1, 64, 0⟩ : S39), (⟨8, (-1), (-1), 9223372036854775807⟩ : S39), (⟨9, (-1), 60, 15⟩ : S39), (⟨9, 1, (-3), 8⟩ : S39), (⟨9, 5, (-9223372036854775808), 0⟩ : S39), (⟨8, 5, (-9223372036854775808), 0⟩ : S39), (⟨8, 5, 9223372036854775807, 0⟩ : S39), (⟨9, 5, 0, 5⟩ : S39), (⟨9, (-9223372036854775808), 63, 1⟩ : S39), (⟨2, 4611686018427387904, 4, 0⟩ : S39), (⟨2, (-9223372036854775808), (-1), (-9223372036854775808)⟩ : S39), (⟨5, 12, 10, 8⟩ : S39), (⟨6, 12, 10, 14⟩ : S39), (⟨7, 12, 10, 6⟩ : S39), (⟨0, 9223372036854775807, 1, (-9223372036854775808)⟩ : S39), (⟨1, (-9223372036854775808), 1, 9223372036854775807⟩ : S39)] : List (S39))) 0
theorem tallowlaw01_NumKnown.mono_l : ∀ k, (∀ y0 y1, LeO (tallowlaw01_NumKnown.l0 k y0 y1) (tallowlaw01_NumKnown.l0 (k + 1) y0 y1)) ∧ (∀ y0 y1 y2, LeO (tallowlaw01_NumKnown.l1 k y0 y1 y2) (tallowlaw01_NumKnown.l1 (k + 1) y0 y1 y2)) ∧ (∀ y0 y1 y2 y3 y4 y5 y6 y7 y8 y9 y10, LeO (tallowlaw01_NumKnown.l2 k y0 y1 y2 y3 y4 y5 y6 y7 y8 y9 y10) (tallowlaw01_NumKnown.l2 (k + 1) y0 y1 y2 y3 y4 y5 y6 y7 y8 y9 y10))
  | 0 => ⟨fun _ _ r h => by simp [tallowlaw01_NumKnown.l0] at h, fun _ _ _ r h => by simp [tallowlaw01_NumKnown.l1] at h, fun _ _ _ _ _ _ _ _ _ _ _ r h => by simp [tallowlaw01_NumKnown.l2] at h⟩
  | k + 1 => by
    obtain ⟨ih0, ih1, ih2⟩ := tallowlaw01_NumKnown.mono_l k
    refine ⟨?_, ?_, ?_⟩
    · intro y0 y1
      unfold tallowlaw01_NumKnown.l0
      repeat' first
      | (with_reducible exact ih0 _ _)
      | (with_reducible exact ih1 _ _ _)
      | (with_reducible exact ih2 _ _ _ _ _ _ _ _ _ _ _)
      | (with_reducible exact LeO.refl _)
      | (with_reducible exact LeO.none _)
      | (with_reducible refine LeO.ite ?_ ?_)
      | (with_reducible refine LeO.bind ?_ (fun _ => ?_))
      | exact ih0 _ _
      | exact ih1 _ _ _
      | exact ih2 _ _ _ _ _ _ _ _ _ _ _
      | exact LeO.none _
      | refine LeO.ite ?_ ?_
      | refine LeO.bind ?_ (fun _ => ?_)
    · intro y0 y1 y2
      unfold tallowlaw01_NumKnown.l1
      repeat' first
      | (with_reducible exact ih0 _ _)
      | (with_reducible exact ih1 _ _ _)
      | (with_reducible exact ih2 _ _ _ _ _ _ _ _ _ _ _)
      | (with_reducible exact LeO.refl _)
      | (with_reducible exact LeO.none _)
      | (with_reducible refine LeO.ite ?_ ?_)
      | (with_reducible refine LeO.bind ?_ (fun _ => ?_))
      | exact ih0 _ _
      | exact ih1 _ _ _
      | exact ih2 _ _ _ _ _ _ _ _ _ _ _
      | exact LeO.none _
      | refine LeO.ite ?_ ?_
      | refine LeO.bind ?_ (fun _ => ?_)
    · intro y0 y1 y2 y3 y4 y5 y6 y7 y8 y9 y10
      unfold tallowlaw01_NumKnown.l2
      repeat' first
      | (with_reducible exact ih0 _ _)
      | (with_reducible exact ih1 _ _ _)
      | (with_reducible exact ih2 _ _ _ _ _ _ _ _ _ _ _)
      | (with_reducible exact LeO.refl _)
      | (with_reducible exact LeO.none _)
      | (with_reducible refine LeO.ite ?_ ?_)
      | (with_reducible refine LeO.bind ?_ (fun _ => ?_))
      | exact ih0 _ _
      | exact ih1 _ _ _
      | exact ih2 _ _ _ _ _ _ _ _ _ _ _
      | exact LeO.none _
      | refine LeO.ite ?_ ?_
      | refine LeO.bind ?_ (fun _ => ?_)
theorem tallowlaw01_NumKnown.mono : ∀ k, LeO (tallowlaw01_NumKnown.f k ) (tallowlaw01_NumKnown.f (k + 1) ) := by
  intro  k
  obtain ⟨ih0, ih1, ih2⟩ := tallowlaw01_NumKnown.mono_l k
  unfold tallowlaw01_NumKnown.f
  repeat' first
      | (with_reducible exact ih0 _ _)
      | (with_reducible exact ih1 _ _ _)
      | (with_reducible exact ih2 _ _ _ _ _ _ _ _ _ _ _)
      | (with_reducible exact LeO.refl _)
      | (with_reducible exact LeO.none _)
      | (with_reducible refine LeO.ite ?_ ?_)
      | (with_reducible refine LeO.bind ?_ (fun _ => ?_))
      | exact ih0 _ _
      | exact ih1 _ _ _
      | exact ih2 _ _ _ _ _ _ _ _ _ _ _
      | exact LeO.none _
      | refine LeO.ite ?_ ?_
      | refine LeO.bind ?_ (fun _ => ?_)
def tallowlaw01_NumKnown.T5 : Bool × List (List Nat × List Nat) := (true, [([], []), ([], []), ([0, 1], [0, 1]), ([2], [2]), ([3], [3]), ([], []), ([], []), ([5, 6], [5, 6]), ([7], [7]), ([8], [8]), ([], []), ([], []), ([10, 11], [10, 11]), ([12], [12]), ([13], [13]), ([4, 9, 14], [4, 9, 14]), ([], []), ([], []), ([16, 17], [16, 17]), ([18], [18]), ([19], [19]), ([15, 20], [15, 20])])
def tallowlaw01_NumKnown.B5 : List Nat := [0, 0, 3, 7, 15, 0, 0, 96, 224, 480, 0, 0, 3072, 7168, 15360, 32767, 0, 0, 196608, 458752, 983040, 2097151]
theorem tallowlaw01_NumKnown.tab5 : rtab .any (opsOf Tryd.f12 5) = tallowlaw01_NumKnown.T5 := by kernel_rfl
theorem tallowlaw01_NumKnown.bits5 : waitsOk tallowlaw01_NumKnown.T5.2 tallowlaw01_NumKnown.B5 = true := by kernel_rfl
set_option maxHeartbeats 8000000 in
set_option maxRecDepth 100000 in
theorem tallowlaw01_NumKnown.calls (k : Nat)  (r : Bool) (w : World) (hL : LaidS w) (h : tallowlaw01_NumKnown.f k  = some r) :
    Calls Tryd.prog 12 #[] w fun e w' => e = .returned (.bool r) ∧ Below w.heap.size w w' := by
  have HL := Aside0.mk hL
  clear hL
  have hu39 := Tryd.underlying39
  have HB := Aside0.mk (Below.refl w.heap.size w)
  have H : (tallowlaw01_NumKnown.l0 k (([(⟨3, 7, 2, 3⟩ : S39), (⟨3, (-7), 2, (-4)⟩ : S39), (⟨3, 7, (-2), (-4)⟩ : S39), (⟨3, (-7), (-2), 3⟩ : S39), (⟨3, (-9223372036854775808), (-1), (-9223372036854775808)⟩ : S39), (⟨3, 6, (-3), (-2)⟩ : S39), (⟨3, (-9223372036854775808), 1, (-9223372036854775808)⟩ : S39), (⟨3, 9223372036854775807, (-9223372036854775808), (-1)⟩ : S39), (⟨4, 7, 3, 1⟩ : S39), (⟨4, (-7), 3, 2⟩ : S39), (⟨4, 7, (-3), (-2)⟩ : S39), (⟨4, (-7), (-3), (-1)⟩ : S39), (⟨4, 5, (-1), 0⟩ : S39), (⟨4, (-9223372036854775808), (-1), 0⟩ : S39), (⟨8, 1, 63, (-9223372036854775808)⟩ : S39), (⟨8, 1, 64, 0⟩ : S39), (⟨8, (-1), (-1), 9223372036854775807⟩ : S39), (⟨9, (-1), 60, 15⟩ : S39), (⟨9, 1, (-3), 8⟩ : S39), (⟨9, 5, (-9223372036854775808), 0⟩ : S39), (⟨8, 5, (-9223372036854775808), 0⟩ : S39), (⟨8, 5, 9223372036854775807, 0⟩ : S39), (⟨9, 5, 0, 5⟩ : S39), (⟨9, (-9223372036854775808), 63, 1⟩ : S39), (⟨2, 4611686018427387904, 4, 0⟩ : S39), (⟨2, (-9223372036854775808), (-1), (-9223372036854775808)⟩ : S39), (⟨5, 12, 10, 8⟩ : S39), (⟨6, 12, 10, 14⟩ : S39), (⟨7, 12, 10, 6⟩ : S39), (⟨0, 9223372036854775807, 1, (-9223372036854775808)⟩ : S39), (⟨1, (-9223372036854775808), 1, 9223372036854775807⟩ : S39)] : List (S39))) 0) = some r := h
  clear h
  obtain ⟨y150, hy150⟩ : ∃ y_ : List (S39), y_ = (([(⟨3, 7, 2, 3⟩ : S39), (⟨3, (-7), 2, (-4)⟩ : S39), (⟨3, 7, (-2), (-4)⟩ : S39), (⟨3, (-7), (-2), 3⟩ : S39), (⟨3, (-9223372036854775808), (-1), (-9223372036854775808)⟩ : S39), (⟨3, 6, (-3), (-2)⟩ : S39), (⟨3, (-9223372036854775808), 1, (-9223372036854775808)⟩ : S39), (⟨3, 9223372036854775807, (-9223372036854775808), (-1)⟩ : S39), (⟨4, 7, 3, 1⟩ : S39), (⟨4, (-7), 3, 2⟩ : S39), (⟨4, 7, (-3), (-2)⟩ : S39), (⟨4, (-7), (-3), (-1)⟩ : S39), (⟨4, 5, (-1), 0⟩ : S39), (⟨4, (-9223372036854775808), (-1), 0⟩ : S39), (⟨8, 1, 63, (-9223372036854775808)⟩ : S39), (⟨8, 1, 64, 0⟩ : S39), (⟨8, (-1), (-1), 9223372036854775807⟩ : S39), (⟨9, (-1), 60, 15⟩ : S39), (⟨9, 1, (-3), 8⟩ : S39), (⟨9, 5, (-9223372036854775808), 0⟩ : S39), (⟨8, 5, (-9223372036854775808), 0⟩ : S39), (⟨8, 5, 9223372036854775807, 0⟩ : S39), (⟨9, 5, 0, 5⟩ : S39), (⟨9, (-9223372036854775808), 63, 1⟩ : S39), (⟨2, 4611686018427387904, 4, 0⟩ : S39), (⟨2, (-9223372036854775808), (-1), (-9223372036854775808)⟩ : S39), (⟨5, 12, 10, 8⟩ : S39), (⟨6, 12, 10, 14⟩ : S39), (⟨7, 12, 10, 6⟩ : S39), (⟨0, 9223372036854775807, 1, (-9223372036854775808)⟩ : S39), (⟨1, (-9223372036854775808), 1, 9223372036854775807⟩ : S39)] : List (S39))) := ⟨_, rfl⟩
  replace H : (tallowlaw01_NumKnown.l0 k y150 0) = some r := by first | (rw [hy150]; with_reducible exact H) | (have H2_ := (Option.bind_some _ _).symm.trans H; rw [hy150]; with_reducible exact H2_) | (have H2_ := (Option.bind_some _ _).symm.trans H; with_reducible exact H2_) | with_reducible exact H | (rw [hy150]; exact H) | exact H
  have Ny150 := Aside0.mk hy150
  clear hy150
  have H' := Aside0.mk H
  clear H
  go_enter Tryd.func12, Tryd.ntmps12
  go_wp2_with (first | ((with_reducible refine gate_dst (N := 53) rfl ?_); refine Kd.R_lit k39 _ 39 ?hg (N := 53) ?hd (xs := ([(⟨3, 7, 2, 3⟩ : S39), (⟨3, (-7), 2, (-4)⟩ : S39), (⟨3, 7, (-2), (-4)⟩ : S39), (⟨3, (-7), (-2), 3⟩ : S39), (⟨3, (-9223372036854775808), (-1), (-9223372036854775808)⟩ : S39), (⟨3, 6, (-3), (-2)⟩ : S39), (⟨3, (-9223372036854775808), 1, (-9223372036854775808)⟩ : S39), (⟨3, 9223372036854775807, (-9223372036854775808), (-1)⟩ : S39), (⟨4, 7, 3, 1⟩ : S39), (⟨4, (-7), 3, 2⟩ : S39), (⟨4, 7, (-3), (-2)⟩ : S39), (⟨4, (-7), (-3), (-1)⟩ : S39), (⟨4, 5, (-1), 0⟩ : S39), (⟨4, (-9223372036854775808), (-1), 0⟩ : S39), (⟨8, 1, 63, (-9223372036854775808)⟩ : S39), (⟨8, 1, 64, 0⟩ : S39), (⟨8, (-1), (-1), 9223372036854775807⟩ : S39), (⟨9, (-1), 60, 15⟩ : S39), (⟨9, 1, (-3), 8⟩ : S39), (⟨9, 5, (-9223372036854775808), 0⟩ : S39), (⟨8, 5, (-9223372036854775808), 0⟩ : S39), (⟨8, 5, 9223372036854775807, 0⟩ : S39), (⟨9, 5, 0, 5⟩ : S39), (⟨9, (-9223372036854775808), 63, 1⟩ : S39), (⟨2, 4611686018427387904, 4, 0⟩ : S39), (⟨2, (-9223372036854775808), (-1), (-9223372036854775808)⟩ : S39), (⟨5, 12, 10, 8⟩ : S39), (⟨6, 12, 10, 14⟩ : S39), (⟨7, 12, 10, 6⟩ : S39), (⟨0, 9223372036854775807, 1, (-9223372036854775808)⟩ : S39), (⟨1, (-9223372036854775808), 1, 9223372036854775807⟩ : S39)] : List (S39))) (inner := [.int .i64 3, .int .i64 7, .int .i64 2, .int .i64 3, .int .i64 3, .int .i64 (-7), .int .i64 2, .int .i64 (-4), .int .i64 3, .int .i64 7, .int .i64 (-2), .int .i64 (-4), .int .i64 3, .int .i64 (-7), .int .i64 (-2), .int .i64 3, .int .i64 3, .int .i64 (-9223372036854775808), .int .i64 (-1), .int .i64 (-9223372036854775808), .int .i64 3, .int .i64 6, .int .i64 (-3), .int .i64 (-2), .int .i64 3, .int .i64 (-9223372036854775808), .int .i64 1, .int .i64 (-9223372036854775808), .int .i64 3, .int .i64 9223372036854775807, .int .i64 (-9223372036854775808), .int .i64 (-1), .int .i64 4, .int .i64 7, .int .i64 3, .int .i64 1, .int .i64 4, .int .i64 (-7), .int .i64 3, .int .i64 2, .int .i64 4, .int .i64 7, .int .i64 (-3), .int .i64 (-2), .int .i64 4, .int .i64 (-7), .int .i64 (-3), .int .i64 (-1), .int .i64 4, .int .i64 5, .int .i64 (-1), .int .i64 0, .int .i64 4, .int .i64 (-9223372036854775808), .int .i64 (-1), .int .i64 0, .int .i64 8, .int .i64 1, .int .i64 63, .int .i64 (-9223372036854775808), .int .i64 8, .int .i64 1, .int .i64 64, .int .i64 0, .int .i64 8, .int .i64 (-1), .int .i64 (-1), .int .i64 9223372036854775807, .int .i64 9, .int .i64 (-1), .int .i64 60, .int .i64 15, .int .i64 9, .int .i64 1, .int .i64 (-3), .int .i64 8, .int .i64 9, .int .i64 5, .int .i64 (-9223372036854775808), .int .i64 0, .int .i64 8, .int .i64 5, .int .i64 (-9223372036854775808), .int .i64 0, .int .i64 8, .int .i64 5, .int .i64 9223372036854775807, .int .i64 0, .int .i64 9, .int .i64 5, .int .i64 0, .int .i64 5, .int .i64 9, .int .i64 (-9223372036854775808), .int .i64 63, .int .i64 1, .int .i64 2, .int .i64 4611686018427387904, .int .i64 4, .int .i64 0, .int .i64 2, .int .i64 (-9223372036854775808), .int .i64 (-1), .int .i64 (-9223372036854775808), .int .i64 5, .int .i64 12, .int .i64 10, .int .i64 8, .int .i64 6, .int .i64 12, .int .i64 10, .int .i64 14, .int .i64 7, .int .i64 12, .int .i64 10, .int .i64 6, .int .i64 0, .int .i64 9223372036854775807, .int .i64 1, .int .i64 (-9223372036854775808), .int .i64 1, .int .i64 (-9223372036854775808), .int .i64 1, .int .i64 9223372036854775807]) (ok := fun _ => True) (okp := fun _ => True) ?hr ?hp (fun _ hk => hk) trivial (Below.refl _ _) (Nat.le_refl _) (by simp) ?_; (case hd => rfl); (case hg => rfl); (case hr => first | (go_simp; done) | (go_simp; rfl)); (case hp => exact (Reps.c4 (show Kd.M k39 _ _ _ (⟨3, 7, 2, 3⟩ : S39) [.int .i64 3, .int .i64 7, .int .i64 2, .int .i64 3] from (k39_mkM _ _ _ (⟨3, 7, 2, 3⟩ : S39) )) (Reps.c4 (show Kd.M k39 _ _ _ (⟨3, (-7), 2, (-4)⟩ : S39) [.int .i64 3, .int .i64 (-7), .int .i64 2, .int .i64 (-4)] from (k39_mkM _ _ _ (⟨3, (-7), 2, (-4)⟩ : S39) )) (Reps.c4 (show Kd.M k39 _ _ _ (⟨3, 7, (-2), (-4)⟩ : S39) [.int .i64 3, .int .i64 7, .int .i64 (-2), .int .i64 (-4)] from (k39_mkM _ _ _ (⟨3, 7, (-2), (-4)⟩ : S39) )) (Reps.c4 (show Kd.M k39 _ _ _ (⟨3, (-7), (-2), 3⟩ : S39) [.int .i64 3, .int .i64 (-7), .int .i64 (-2), .int .i64 3] from (k39_mkM _ _ _ (⟨3, (-7), (-2), 3⟩ : S39) )) (Reps.c4 (show Kd.M k39 _ _ _ (⟨3, (-9223372036854775808), (-1), (-9223372036854775808)⟩ : S39) [.int .i64 3, .int .i64 (-9223372036854775808), .int .i64 (-1), .int .i64 (-9223372036854775808)] from (k39_mkM _ _ _ (⟨3, (-9223372036854775808), (-1), (-9223372036854775808)⟩ : S39) )) (Reps.c4 (show Kd.M k39 _ _ _ (⟨3, 6, (-3), (-2)⟩ : S39) [.int .i64 3, .int .i64 6, .int .i64 (-3), .int .i64 (-2)] from (k39_mkM _ _ _ (⟨3, 6, (-3), (-2)⟩ : S39) )) (Reps.c4 (show Kd.M k39 _ _ _ (⟨3, (-9223372036854775808), 1, (-9223372036854775808)⟩ : S39) [.int .i64 3, .int .i64 (-9223372036854775808), .int .i64 1, .int .i64 (-9223372036854775808)] from (k39_mkM _ _ _ (⟨3, (-9223372036854775808), 1, (-9223372036854775808)⟩ : S39) )) (Reps.c4 (show Kd.M k39 _ _ _ (⟨3, 9223372036854775807, (-9223372036854775808), (-1)⟩ : S39) [.int .i64 3, .int .i64 9223372036854775807, .int .i64 (-9223372036854775808), .int .i64 (-1)] from (k39_mkM _ _ _ (⟨3, 9223372036854775807, (-9223372036854775808), (-1)⟩ : S39) )) (Reps.c4 (show Kd.M k39 _ _ _ (⟨4, 7, 3, 1⟩ : S39) [.int .i64 4, .int .i64 7, .int .i64 3, .int .i64 1] from (k39_mkM _ _ _ (⟨4, 7, 3, 1⟩ : S39) )) (Reps.c4 (show Kd.M k39 _ _ _ (⟨4, (-7), 3, 2⟩ : S39) [.int .i64 4, .int .i64 (-7), .int .i64 3, .int .i64 2] from (k39_mkM _ _ _ (⟨4, (-7), 3, 2⟩ : S39) )) (Reps.c4 (show Kd.M k39 _ _ _ (⟨4, 7, (-3), (-2)⟩ : S39) [.int .i64 4, .int .i64 7, .int .i64 (-3), .int .i64 (-2)] from (k39_mkM _ _ _ (⟨4, 7, (-3), (-2)⟩ : S39) )) (Reps.c4 (show Kd.M k39 _ _ _ (⟨4, (-7), (-3), (-1)⟩ : S39) [.int .i64 4, .int .i64 (-7), .int .i64 (-3), .int .i64 (-1)] from (k39_mkM _ _ _ (⟨4, (-7), (-3), (-1)⟩ : S39) )) (Reps.c4 (show Kd.M k39 _ _ _ (⟨4, 5, (-1), 0⟩ : S39) [.int .i64 4, .int .i64 5, .int .i64 (-1), .int .i64 0] from (k39_mkM _ _ _ (⟨4, 5, (-1), 0⟩ : S39) )) (Reps.c4 (show Kd.M k39 _ _ _ (⟨4, (-9223372036854775808), (-1), 0⟩ : S39) [.int .i64 4, .int .i64 (-9223372036854775808), .int .i64 (-1), .int .i64 0] from (k39_mkM _ _ _ (⟨4, (-9223372036854775808), (-1), 0⟩ : S39) )) (Reps.c4 (show Kd.M k39 _ _ _ (⟨8, 1, 63, (-9223372036854775808)⟩ : S39) [.int .i64 8, .int .i64 1, .int .i64 63, .int .i64 (-9223372036854775808)] from (k39_mkM _ _ _ (⟨8, 1, 63, (-9223372036854775808)⟩ : S39) )) (Reps.c4 (show Kd.M k39 _ _ _ (⟨8, 1, 64, 0⟩ : S39) [.int .i64 8, .int .i64 1, .int .i64 64, .int .i64 0] from (k39_mkM _ _ _ (⟨8, 1, 64, 0⟩ : S39) )) (Reps.c4 (show Kd.M k39 _ _ _ (⟨8, (-1), (-1), 9223372036854775807⟩ : S39) [.int .i64 8, .int .i64 (-1), .int .i64 (-1), .int .i64 9223372036854775807] from (k39_mkM _ _ _ (⟨8, (-1), (-1), 9223372036854775807⟩ : S39) )) (Reps.c4 (show Kd.M k39 _ _ _ (⟨9, (-1), 60, 15⟩ : S39) [.int .i64 9, .int .i64 (-1), .int .i64 60, .int .i64 15] from (k39_mkM _ _ _ (⟨9, (-1), 60, 15⟩ : S39) )) (Reps.c4 (show Kd.M k39 _ _ _ (⟨9, 1, (-3), 8⟩ : S39) [.int .i64 9, .int .i64 1, .int .i64 (-3), .int .i64 8] from (k39_mkM _ _ _ (⟨9, 1, (-3), 8⟩ : S39) )) (Reps.c4 (show Kd.M k39 _ _ _ (⟨9, 5, (-9223372036854775808), 0⟩ : S39) [.int .i64 9, .int .i64 5, .int .i64 (-9223372036854775808), .int .i64 0] from (k39_mkM _ _ _ (⟨9, 5, (-9223372036854775808), 0⟩ : S39) )) (Reps.c4 (show Kd.M k39 _ _ _ (⟨8, 5, (-9223372036854775808), 0⟩ : S39) [.int .i64 8, .int .i64 5, .int .i64 (-9223372036854775808), .int .i64 0] from (k39_mkM _ _ _ (⟨8, 5, (-9223372036854775808), 0⟩ : S39) )) (Reps.c4 (show Kd.M k39 _ _ _ (⟨8, 5, 9223372036854775807, 0⟩ : S39) [.int .i64 8, .int .i64 5, .int .i64 9223372036854775807, .int .i64 0] from (k39_mkM _ _ _ (⟨8, 5, 9223372036854775807, 0⟩ : S39) )) (Reps.c4 (show Kd.M k39 _ _ _ (⟨9, 5, 0, 5⟩ : S39) [.int .i64 9, .int .i64 5, .int .i64 0, .int .i64 5] from (k39_mkM _ _ _ (⟨9, 5, 0, 5⟩ : S39) )) (Reps.c4 (show Kd.M k39 _ _ _ (⟨9, (-9223372036854775808), 63, 1⟩ : S39) [.int .i64 9, .int .i64 (-9223372036854775808), .int .i64 63, .int .i64 1] from (k39_mkM _ _ _ (⟨9, (-9223372036854775808), 63, 1⟩ : S39) )) (Reps.c4 (show Kd.M k39 _ _ _ (⟨2, 4611686018427387904, 4, 0⟩ : S39) [.int .i64 2, .int .i64 4611686018427387904, .int .i64 4, .int .i64 0] from (k39_mkM _ _ _ (⟨2, 4611686018427387904, 4, 0⟩ : S39) )) (Reps.c4 (show Kd.M k39 _ _ _ (⟨2, (-9223372036854775808), (-1), (-9223372036854775808)⟩ : S39) [.int .i64 2, .int .i64 (-9223372036854775808), .int .i64 (-1), .int .i64 (-9223372036854775808)] from (k39_mkM _ _ _ (⟨2, (-9223372036854775808), (-1), (-9223372036854775808)⟩ : S39) )) (Reps.c4 (show Kd.M k39 _ _ _ (⟨5, 12, 10, 8⟩ : S39) [.int .i64 5, .int .i64 12, .int .i64 10, .int .i64 8] from (k39_mkM _ _ _ (⟨5, 12, 10, 8⟩ : S39) )) (Reps.c4 (show Kd.M k39 _ _ _ (⟨6, 12, 10, 14⟩ : S39) [.int .i64 6, .int .i64 12, .int .i64 10, .int .i64 14] from (k39_mkM _ _ _ (⟨6, 12, 10, 14⟩ : S39) )) (Reps.c4 (show Kd.M k39 _ _ _ (⟨7, 12, 10, 6⟩ : S39) [.int .i64 7, .int .i64 12, .int .i64 10, .int .i64 6] from (k39_mkM _ _ _ (⟨7, 12, 10, 6⟩ : S39) )) (Reps.c4 (show Kd.M k39 _ _ _ (⟨0, 9223372036854775807, 1, (-9223372036854775808)⟩ : S39) [.int .i64 0, .int .i64 9223372036854775807, .int .i64 1, .int .i64 (-9223372036854775808)] from (k39_mkM _ _ _ (⟨0, 9223372036854775807, 1, (-9223372036854775808)⟩ : S39) )) (Reps.c4 (show Kd.M k39 _ _ _ (⟨1, (-9223372036854775808), 1, 9223372036854775807⟩ : S39) [.int .i64 1, .int .i64 (-9223372036854775808), .int .i64 1, .int .i64 9223372036854775807] from (k39_mkM _ _ _ (⟨1, (-9223372036854775808), 1, 9223372036854775807⟩ : S39) )) (Reps.none _ _))))))))))))))))))))))))))))))))); intro v151 w1 ho2 hb hg_ hnew_; clear hg_ hnew_; (first | rw [← Ny150.out] at ho2 | (simp only [Int.reduceToNat] at ho2; rw [← Ny150.out] at ho2)); have n0_ := Aside0.mk (Kd.R_lower ho2 (below_size (by repeat (first | (with_reducible first | exact HB.out | apply below_alloc | apply pw_below_drewN | apply below_drew1) | exact HB.out)))); have n1_ := Aside0.mk (below_step (by repeat (first | (with_reducible first | exact HB.out | apply below_alloc | apply pw_below_drewN | apply below_drew1) | exact HB.out)) hb); clear HB; have HO152 := n0_; have HB := n1_; clear n0_ n1_; clear hb ho2))
  go_loopg [2] k (fun kq v2 w' => ∃ (x2_1 : Int), v2 = .int .i64 x2_1 ∧ Aside0 (tallowlaw01_NumKnown.l0 kq y150 x2_1 = some r) ∧ Aside0 (kq ≤ k) ∧ Aside0 (Kd.R k39 39 w' w.heap.size (fun _ => True) v151 y150) ∧ Aside0 (Below w.heap.size w w'))
  case atStart => exact ⟨(0), (by first | rfl | (simp; done) | (simp [*]; done)), H', ⟨Nat.le_refl _⟩, ⟨by (with_reducible repeat (first | apply Kd.R_alloc | apply Kd.R_drewN | apply Kd.R_drew)); exact HO152.out⟩, ⟨by repeat (first | (with_reducible first | exact HB.out | apply below_alloc | apply pw_below_drewN | apply below_drew1) | exact HB.out)⟩⟩
  case round =>
    clear H'
    try clear c1
    try clear p2
    obtain ⟨x2_1, rfl, HA, HK1, HO_1, HB⟩ := hrel
    cases gk with
    | zero => exact absurd HA.out (by simp [tallowlaw01_NumKnown.l0])
    | succ k1 =>
      have H := HA.out
      clear HA
      simp only [tallowlaw01_NumKnown.l0] at H
      by_cases c3 : x2_1 < (y150.length : Int)
      · rw [if_pos c3] at H
        have c3b0 : decide (x2_1 < (y150.length : Int)) = true := decide_eq_true c3
        clear c3
        by_cases c4 : 0 ≤ x2_1
        · rw [if_pos c4] at H
          have c4b0 : decide (0 ≤ x2_1) = true := decide_eq_true c4
          clear c4
          replace H := Option.bind_eq_some_iff.mp H
          obtain ⟨t156, A50, H⟩ := H
          replace H : (if t156 = ((rd_T39 y150 x2_1).f3) then (tallowlaw01_NumKnown.l0 k1 y150 (wrap64 (x2_1 + 1))) else (some false)) = some r := H
          have A5 := Aside0.mk A50
          clear A50
          by_cases c6 : t156 = ((rd_T39 y150 x2_1).f3)
          · rw [if_pos c6] at H
            have c6b0 : (t156 == ((rd_T39 y150 x2_1).f3)) = true := beq_iff_eq.mpr c6
            have c6b1 : (t156 != ((rd_T39 y150 x2_1).f3)) = false := bne_eq_false_iff_eq.mpr c6
            clear c6
            have H' := Aside0.mk H
            clear H
            obtain ⟨Ao7, co7, eo7⟩ := Kd.R_slice HO_1.out
            subst eo7
            try go_wp2
            have n0_ := Aside0.mk (Kd.R_drew HO_1.out)
            have n1_ := Aside0.mk (below_drew1 HB.out)
            clear HO_1
            clear HB
            have HO_1 := n0_
            have HB := n1_
            clear n0_ n1_
            have p153 : 0 ≤ (x2_1 : Int) := of_decide_eq_true (by first | (with_reducible assumption) | assumption)
            have q153 : x2_1 < (y150.length : Int) := of_decide_eq_true (by first | (with_reducible assumption) | assumption)
            obtain ⟨ad153, e153, hx153_0, hx153_1, hx153_2, hx153_3⟩ := at_T39 (Kd.R_reads' HO_1.out).2.2 x2_1 p153 q153
            cases e153
            replace p153 := eq_true p153
            replace q153 := eq_true q153
            have p154 : 0 ≤ (x2_1 : Int) := of_decide_eq_true (by first | (with_reducible assumption) | assumption)
            have q154 : x2_1 < (y150.length : Int) := of_decide_eq_true (by first | (with_reducible assumption) | assumption)
            obtain ⟨ad154, e154, hx154_0, hx154_1, hx154_2, hx154_3⟩ := at_T39 (Kd.R_reads' HO_1.out).2.2 x2_1 p154 q154
            obtain rfl : ad153 = ad154 := (by injection e154)
            replace p154 := eq_true p154
            replace q154 := eq_true q154
            have p155 : 0 ≤ (x2_1 : Int) := of_decide_eq_true (by first | (with_reducible assumption) | assumption)
            have q155 : x2_1 < (y150.length : Int) := of_decide_eq_true (by first | (with_reducible assumption) | assumption)
            obtain ⟨ad155, e155, hx155_0, hx155_1, hx155_2, hx155_3⟩ := at_T39 (Kd.R_reads' HO_1.out).2.2 x2_1 p155 q155
            obtain rfl : ad153 = ad155 := (by injection e155)
            replace p155 := eq_true p155
            replace q155 := eq_true q155
            have p157 : 0 ≤ (x2_1 : Int) := of_decide_eq_true (by first | (with_reducible assumption) | assumption)
            have q157 : x2_1 < (y150.length : Int) := of_decide_eq_true (by first | (with_reducible assumption) | assumption)
            obtain ⟨ad157, e157, hx157_0, hx157_1, hx157_2, hx157_3⟩ := at_T39 (Kd.R_reads' HO_1.out).2.2 x2_1 p157 q157
            obtain rfl : ad153 = ad157 := (by injection e157)
            replace p157 := eq_true p157
            replace q157 := eq_true q157
            refine start_ (n := 22) (S := fun w' => w'.cell? (ad153.add ((x2_1).toNat * 4)) = some (.int .i64 ((rd_T39 y150 x2_1).f0)) ∧ w'.cell? ⟨(ad153.add ((x2_1).toNat * 4)).block, (ad153.add ((x2_1).toNat * 4)).off + 1, none⟩ = some (.int .i64 ((rd_T39 y150 x2_1).f1)) ∧ w'.cell? ⟨(ad153.add ((x2_1).toNat * 4)).block, (ad153.add ((x2_1).toNat * 4)).off + 2, none⟩ = some (.int .i64 ((rd_T39 y150 x2_1).f2)) ∧ w'.cell? ⟨(ad153.add ((x2_1).toNat * 4)).block, (ad153.add ((x2_1).toNat * 4)).off + 3, none⟩ = some (.int .i64 ((rd_T39 y150 x2_1).f3)) ∧ w'.cell? (ad153.add ((x2_1).toNat * 4)) = some (.int .i64 ((rd_T39 y150 x2_1).f0)) ∧ w'.cell? ⟨(ad153.add ((x2_1).toNat * 4)).block, (ad153.add ((x2_1).toNat * 4)).off + 1, none⟩ = some (.int .i64 ((rd_T39 y150 x2_1).f1)) ∧ w'.cell? ⟨(ad153.add ((x2_1).toNat * 4)).block, (ad153.add ((x2_1).toNat * 4)).off + 2, none⟩ = some (.int .i64 ((rd_T39 y150 x2_1).f2)) ∧ w'.cell? ⟨(ad153.add ((x2_1).toNat * 4)).block, (ad153.add ((x2_1).toNat * 4)).off + 3, none⟩ = some (.int .i64 ((rd_T39 y150 x2_1).f3)) ∧ w'.cell? (ad153.add ((x2_1).toNat * 4)) = some (.int .i64 ((rd_T39 y150 x2_1).f0)) ∧ w'.cell? ⟨(ad153.add ((x2_1).toNat * 4)).block, (ad153.add ((x2_1).toNat * 4)).off + 1, none⟩ = some (.int .i64 ((rd_T39 y150 x2_1).f1)) ∧ w'.cell? ⟨(ad153.add ((x2_1).toNat * 4)).block, (ad153.add ((x2_1).toNat * 4)).off + 2, none⟩ = some (.int .i64 ((rd_T39 y150 x2_1).f2)) ∧ w'.cell? ⟨(ad153.add ((x2_1).toNat * 4)).block, (ad153.add ((x2_1).toNat * 4)).off + 3, none⟩ = some (.int .i64 ((rd_T39 y150 x2_1).f3)) ∧ w'.cell? (ad153.add ((x2_1).toNat * 4)) = some (.int .i64 ((rd_T39 y150 x2_1).f0)) ∧ w'.cell? ⟨(ad153.add ((x2_1).toNat * 4)).block, (ad153.add ((x2_1).toNat * 4)).off + 1, none⟩ = some (.int .i64 ((rd_T39 y150 x2_1).f1)) ∧ w'.cell? ⟨(ad153.add ((x2_1).toNat * 4)).block, (ad153.add ((x2_1).toNat * 4)).off + 2, none⟩ = some (.int .i64 ((rd_T39 y150 x2_1).f2)) ∧ w'.cell? ⟨(ad153.add ((x2_1).toNat * 4)).block, (ad153.add ((x2_1).toNat * 4)).off + 3, none⟩ = some (.int .i64 ((rd_T39 y150 x2_1).f3))) (ds := []) #[false, false, false, false, false, false, false, false, false, false, false, false, false, false, false, false, false, false, false, false, false, false] (by kernel_rfl) rfl rfl ⟨hx153_0, hx153_1, hx153_2, hx153_3, hx154_0, hx154_1, hx154_2, hx154_3, hx155_0, hx155_1, hx155_2, hx155_3, hx157_0, hx157_1, hx157_2, hx157_3⟩ (fun hHeld => ?_); refine with_tabW tallowlaw01_NumKnown.tab5 tallowlaw01_NumKnown.bits5 (fun HT_ HW_ => ?_)
            generalize wr.drew = w8 at HO_1 HB hx153_0 hx153_1 hx153_2 hx153_3 hx154_0 hx154_1 hx154_2 hx154_3 hx155_0 hx155_1 hx155_2 hx155_3 hx157_0 hx157_1 hx157_2 hx157_3 hHeld ⊢
            refine pure_ (i := 0) (N := some 60) (v := ?_) (a' := ?_) #[true, false, false, false, false, false, false, false, false, false, false, false, false, false, false, false, false, false, false, false, false, false] rfl rfl (any_of HT_.out (by kernel_rfl)) (fun _ _ _ h => h) (Or.inl ⟨by rfl, ?_⟩) ?_ ?_
            rotate_left
            · intro w'
              go_simp
              with_reducible rfl
            rotate_left
            · simp only [Act.put, List.setIfInBounds_toArray, List.set_cons_zero, List.set_cons_succ, i64_w, i32_w]
              rfl
            refine pure_ (i := 1) (N := some 61) (v := ?_) (a' := ?_) #[true, true, false, false, false, false, false, false, false, false, false, false, false, false, false, false, false, false, false, false, false, false] rfl rfl (any_of HT_.out (by kernel_rfl)) (fun _ _ _ h => h) (Or.inl ⟨by rfl, ?_⟩) ?_ ?_
            rotate_left
            · intro w'
              go_simp
              with_reducible rfl
            rotate_left
            · simp only [Act.put, List.setIfInBounds_toArray, List.set_cons_zero, List.set_cons_succ, i64_w, i32_w]
              rfl
            refine pure_ (i := 2) (N := some 62) (v := ?_) (a' := ?_) #[true, true, true, false, false, false, false, false, false, false, false, false, false, false, false, false, false, false, false, false, false, false] rfl rfl (any_of HT_.out (by kernel_rfl)) (fun _ _ _ h => h) (Or.inl ⟨by rfl, ?_⟩) ?_ ?_
            rotate_left
            · intro w'
              go_simp
              with_reducible rfl
            rotate_left
            · simp only [Act.put, List.setIfInBounds_toArray, List.set_cons_zero, List.set_cons_succ, i64_w, i32_w]
              rfl
            refine pure_ (i := 3) (N := some 63) (v := ?_) (a' := ?_) #[true, true, true, true, false, false, false, false, false, false, false, false, false, false, false, false, false, false, false, false, false, false] rfl rfl (any_of HT_.out (by kernel_rfl)) (fun _ _ _ h => h) (Or.inl ⟨by rfl, ?_⟩) ?_ ?_
            rotate_left
            · intro w'
              go_simp
              with_reducible rfl
            rotate_left
            · simp only [Act.put, List.setIfInBounds_toArray, List.set_cons_zero, List.set_cons_succ, i64_w, i32_w]
              rfl
            refine pure_ (i := 5) (N := some 65) (v := ?_) (a' := ?_) #[true, true, true, true, false, true, false, false, false, false, false, false, false, false, false, false, false, false, false, false, false, false] rfl rfl (any_of HT_.out (by kernel_rfl)) (fun _ _ _ h => h) (Or.inl ⟨by rfl, ?_⟩) ?_ ?_
            rotate_left
            · intro w'
              go_simp
              with_reducible rfl
            rotate_left
            · simp only [Act.put, List.setIfInBounds_toArray, List.set_cons_zero, List.set_cons_succ, i64_w, i32_w]
              rfl
            refine pure_ (i := 6) (N := some 66) (v := ?_) (a' := ?_) #[true, true, true, true, false, true, true, false, false, false, false, false, false, false, false, false, false, false, false, false, false, false] rfl rfl (any_of HT_.out (by kernel_rfl)) (fun _ _ _ h => h) (Or.inl ⟨by rfl, ?_⟩) ?_ ?_
            rotate_left
            · intro w'
              go_simp
              with_reducible rfl
            rotate_left
            · simp only [Act.put, List.setIfInBounds_toArray, List.set_cons_zero, List.set_cons_succ, i64_w, i32_w]
              rfl
            refine pure_ (i := 7) (N := some 67) (v := ?_) (a' := ?_) #[true, true, true, true, false, true, true, true, false, false, false, false, false, false, false, false, false, false, false, false, false, false] rfl rfl (any_of HT_.out (by kernel_rfl)) (fun _ _ _ h => h) (Or.inl ⟨by rfl, ?_⟩) ?_ ?_
            rotate_left
            · intro w'
              go_simp
              with_reducible rfl
            rotate_left
            · simp only [Act.put, List.setIfInBounds_toArray, List.set_cons_zero, List.set_cons_succ, i64_w, i32_w]
              rfl
            refine pure_ (i := 8) (N := some 68) (v := ?_) (a' := ?_) #[true, true, true, true, false, true, true, true, true, false, false, false, false, false, false, false, false, false, false, false, false, false] rfl rfl (any_of HT_.out (by kernel_rfl)) (fun _ _ _ h => h) (Or.inl ⟨by rfl, ?_⟩) ?_ ?_
            rotate_left
            · intro w'
              go_simp
              with_reducible rfl
            rotate_left
            · simp only [Act.put, List.setIfInBounds_toArray, List.set_cons_zero, List.set_cons_succ, i64_w, i32_w]
              rfl
            refine pure_ (i := 10) (N := some 70) (v := ?_) (a' := ?_) #[true, true, true, true, false, true, true, true, true, false, true, false, false, false, false, false, false, false, false, false, false, false] rfl rfl (any_of HT_.out (by kernel_rfl)) (fun _ _ _ h => h) (Or.inl ⟨by rfl, ?_⟩) ?_ ?_
            rotate_left
            · intro w'
              go_simp
              with_reducible rfl
            rotate_left
            · simp only [Act.put, List.setIfInBounds_toArray, List.set_cons_zero, List.set_cons_succ, i64_w, i32_w]
              rfl
            refine pure_ (i := 11) (N := some 71) (v := ?_) (a' := ?_) #[true, true, true, true, false, true, true, true, true, false, true, true, false, false, false, false, false, false, false, false, false, false] rfl rfl (any_of HT_.out (by kernel_rfl)) (fun _ _ _ h => h) (Or.inl ⟨by rfl, ?_⟩) ?_ ?_
            rotate_left
            · intro w'
              go_simp
              with_reducible rfl
            rotate_left
            · simp only [Act.put, List.setIfInBounds_toArray, List.set_cons_zero, List.set_cons_succ, i64_w, i32_w]
              rfl
            refine pure_ (i := 12) (N := some 72) (v := ?_) (a' := ?_) #[true, true, true, true, false, true, true, true, true, false, true, true, true, false, false, false, false, false, false, false, false, false] rfl rfl (any_of HT_.out (by kernel_rfl)) (fun _ _ _ h => h) (Or.inl ⟨by rfl, ?_⟩) ?_ ?_
            rotate_left
            · intro w'
              go_simp
              with_reducible rfl
            rotate_left
            · simp only [Act.put, List.setIfInBounds_toArray, List.set_cons_zero, List.set_cons_succ, i64_w, i32_w]
              rfl
            refine pure_ (i := 13) (N := some 73) (v := ?_) (a' := ?_) #[true, true, true, true, false, true, true, true, true, false, true, true, true, true, false, false, false, false, false, false, false, false] rfl rfl (any_of HT_.out (by kernel_rfl)) (fun _ _ _ h => h) (Or.inl ⟨by rfl, ?_⟩) ?_ ?_
            rotate_left
            · intro w'
              go_simp
              with_reducible rfl
            rotate_left
            · simp only [Act.put, List.setIfInBounds_toArray, List.set_cons_zero, List.set_cons_succ, i64_w, i32_w]
              rfl
            refine pure_ (i := 16) (N := some 76) (v := ?_) (a' := ?_) #[true, true, true, true, false, true, true, true, true, false, true, true, true, true, false, false, true, false, false, false, false, false] rfl rfl (any_of HT_.out (by kernel_rfl)) (fun _ _ _ h => h) (Or.inl ⟨by rfl, ?_⟩) ?_ ?_
            rotate_left
            · intro w'
              go_simp
              with_reducible rfl
            rotate_left
            · simp only [Act.put, List.setIfInBounds_toArray, List.set_cons_zero, List.set_cons_succ, i64_w, i32_w]
              rfl
            refine pure_ (i := 17) (N := some 77) (v := ?_) (a' := ?_) #[true, true, true, true, false, true, true, true, true, false, true, true, true, true, false, false, true, true, false, false, false, false] rfl rfl (any_of HT_.out (by kernel_rfl)) (fun _ _ _ h => h) (Or.inl ⟨by rfl, ?_⟩) ?_ ?_
            rotate_left
            · intro w'
              go_simp
              with_reducible rfl
            rotate_left
            · simp only [Act.put, List.setIfInBounds_toArray, List.set_cons_zero, List.set_cons_succ, i64_w, i32_w]
              rfl
            refine pure_ (i := 18) (N := some 78) (v := ?_) (a' := ?_) #[true, true, true, true, false, true, true, true, true, false, true, true, true, true, false, false, true, true, true, false, false, false] rfl rfl (any_of HT_.out (by kernel_rfl)) (fun _ _ _ h => h) (Or.inl ⟨by rfl, ?_⟩) ?_ ?_
            rotate_left
            · intro w'
              go_simp
              with_reducible rfl
            rotate_left
            · simp only [Act.put, List.setIfInBounds_toArray, List.set_cons_zero, List.set_cons_succ, i64_w, i32_w]
              rfl
            refine pure_ (i := 19) (N := some 79) (v := ?_) (a' := ?_) #[true, true, true, true, false, true, true, true, true, false, true, true, true, true, false, false, true, true, true, true, false, false] rfl rfl (any_of HT_.out (by kernel_rfl)) (fun _ _ _ h => h) (Or.inl ⟨by rfl, ?_⟩) ?_ ?_
            rotate_left
            · intro w'
              go_simp
              with_reducible rfl
            rotate_left
            · simp only [Act.put, List.setIfInBounds_toArray, List.set_cons_zero, List.set_cons_succ, i64_w, i32_w]
              rfl
            refine take_ (i := 4) (N := some 64) (v := ?_) (a' := ?_) #[true, true, true, true, true, true, true, true, true, false, true, true, true, true, false, false, true, true, true, true, false, false] rfl rfl (take_ofW HT_.out HW_.out (by kernel_rfl)) (fun _ _ _ h => h) (Or.inl ⟨by rfl, ?_⟩) hHeld ?_ ?_
            rotate_left
            · rintro w' ⟨s0, s1, s2, s3, s4, s5, s6, s7, s8, s9, s10, s11, s12, s13, s14, s15⟩
              go_simp
              with_reducible rfl
            rotate_left
            · simp only [Act.put, List.setIfInBounds_toArray, List.set_cons_zero, List.set_cons_succ, i64_w, i32_w]
              rfl
            refine take_ (i := 9) (N := some 69) (v := ?_) (a' := ?_) #[true, true, true, true, true, true, true, true, true, true, true, true, true, true, false, false, true, true, true, true, false, false] rfl rfl (take_ofW HT_.out HW_.out (by kernel_rfl)) (fun _ _ _ h => h) (Or.inl ⟨by rfl, ?_⟩) hHeld ?_ ?_
            rotate_left
            · rintro w' ⟨s0, s1, s2, s3, s4, s5, s6, s7, s8, s9, s10, s11, s12, s13, s14, s15⟩
              go_simp
              with_reducible rfl
            rotate_left
            · simp only [Act.put, List.setIfInBounds_toArray, List.set_cons_zero, List.set_cons_succ, i64_w, i32_w]
              rfl
            refine take_ (i := 14) (N := some 74) (v := ?_) (a' := ?_) #[true, true, true, true, true, true, true, true, true, true, true, true, true, true, true, false, true, true, true, true, false, false] rfl rfl (take_ofW HT_.out HW_.out (by kernel_rfl)) (fun _ _ _ h => h) (Or.inl ⟨by rfl, ?_⟩) hHeld ?_ ?_
            rotate_left
            · rintro w' ⟨s0, s1, s2, s3, s4, s5, s6, s7, s8, s9, s10, s11, s12, s13, s14, s15⟩
              go_simp
              with_reducible rfl
            rotate_left
            · simp only [Act.put, List.setIfInBounds_toArray, List.set_cons_zero, List.set_cons_succ, i64_w, i32_w]
              rfl
            refine take_ (i := 20) (N := some 80) (v := ?_) (a' := ?_) #[true, true, true, true, true, true, true, true, true, true, true, true, true, true, true, false, true, true, true, true, true, false] rfl rfl (take_ofW HT_.out HW_.out (by kernel_rfl)) (fun _ _ _ h => h) (Or.inl ⟨by rfl, ?_⟩) hHeld ?_ ?_
            rotate_left
            · rintro w' ⟨s0, s1, s2, s3, s4, s5, s6, s7, s8, s9, s10, s11, s12, s13, s14, s15⟩
              go_simp
              with_reducible rfl
            rotate_left
            · simp only [Act.put, List.setIfInBounds_toArray, List.set_cons_zero, List.set_cons_succ, i64_w, i32_w]
              rfl
            refine one_ (i := 15) (N := some 75) #[true, true, true, true, true, true, true, true, true, true, true, true, true, true, true, true, true, true, true, true, true, false] rfl rfl (one_of HT_.out (by kernel_rfl)) (by decide) (fun K hK => ?_)
            refine goes_ Tryd.func20 (by kernel_rfl) rfl #[.int .i64 ((rd_T39 y150 x2_1).f0), .int .i64 ((rd_T39 y150 x2_1).f1), .int .i64 ((rd_T39 y150 x2_1).f2)] (by rfl) rfl rfl (by (try simp only [List.map_toArray, List.map_cons, List.map_nil]); first | done | rfl | (simp only [List.length_drop, List.length_take]; rfl)) ?_
            with_reducible refine (tallowlaw01_do.calls ((rd_T39 y150 x2_1).f0) ((rd_T39 y150 x2_1).f1) ((rd_T39 y150 x2_1).f2) t156 _ A5.out).mono ?_
            rintro e w9 ⟨rfl, hb⟩
            have HS0_ := (hb.cell (World.block_lt_of_cell? _ _ (hHeld.1))).trans (hHeld.1)
            have HS1_ := (hb.cell (World.block_lt_of_cell? _ _ (hHeld.2.1))).trans (hHeld.2.1)
            have HS2_ := (hb.cell (World.block_lt_of_cell? _ _ (hHeld.2.2.1))).trans (hHeld.2.2.1)
            have HS3_ := (hb.cell (World.block_lt_of_cell? _ _ (hHeld.2.2.2.1))).trans (hHeld.2.2.2.1)
            have HS4_ := (hb.cell (World.block_lt_of_cell? _ _ (hHeld.2.2.2.2.1))).trans (hHeld.2.2.2.2.1)
            have HS5_ := (hb.cell (World.block_lt_of_cell? _ _ (hHeld.2.2.2.2.2.1))).trans (hHeld.2.2.2.2.2.1)
            have HS6_ := (hb.cell (World.block_lt_of_cell? _ _ (hHeld.2.2.2.2.2.2.1))).trans (hHeld.2.2.2.2.2.2.1)
            have HS7_ := (hb.cell (World.block_lt_of_cell? _ _ (hHeld.2.2.2.2.2.2.2.1))).trans (hHeld.2.2.2.2.2.2.2.1)
            have HS8_ := (hb.cell (World.block_lt_of_cell? _ _ (hHeld.2.2.2.2.2.2.2.2.1))).trans (hHeld.2.2.2.2.2.2.2.2.1)
            have HS9_ := (hb.cell (World.block_lt_of_cell? _ _ (hHeld.2.2.2.2.2.2.2.2.2.1))).trans (hHeld.2.2.2.2.2.2.2.2.2.1)
            have HS10_ := (hb.cell (World.block_lt_of_cell? _ _ (hHeld.2.2.2.2.2.2.2.2.2.2.1))).trans (hHeld.2.2.2.2.2.2.2.2.2.2.1)
            have HS11_ := (hb.cell (World.block_lt_of_cell? _ _ (hHeld.2.2.2.2.2.2.2.2.2.2.2.1))).trans (hHeld.2.2.2.2.2.2.2.2.2.2.2.1)
            have HS12_ := (hb.cell (World.block_lt_of_cell? _ _ (hHeld.2.2.2.2.2.2.2.2.2.2.2.2.1))).trans (hHeld.2.2.2.2.2.2.2.2.2.2.2.2.1)
            have HS13_ := (hb.cell (World.block_lt_of_cell? _ _ (hHeld.2.2.2.2.2.2.2.2.2.2.2.2.2.1))).trans (hHeld.2.2.2.2.2.2.2.2.2.2.2.2.2.1)
            have HS14_ := (hb.cell (World.block_lt_of_cell? _ _ (hHeld.2.2.2.2.2.2.2.2.2.2.2.2.2.2.1))).trans (hHeld.2.2.2.2.2.2.2.2.2.2.2.2.2.2.1)
            have HS15_ := (hb.cell (World.block_lt_of_cell? _ _ (hHeld.2.2.2.2.2.2.2.2.2.2.2.2.2.2.2))).trans (hHeld.2.2.2.2.2.2.2.2.2.2.2.2.2.2.2)
            refine ⟨_, rfl, ?_⟩
            have n0_ := Aside0.mk (Kd.R_below (by (with_reducible repeat (first | apply Kd.R_alloc | apply Kd.R_drewN | apply Kd.R_drew)); exact HO_1.out) hb)
            have n1_ := Aside0.mk (below_step (by repeat (first | (with_reducible first | exact HB.out | apply below_alloc | apply pw_below_drewN | apply below_drew1) | exact HB.out)) hb)
            clear HO_1
            clear HB
            have HO_1 := n0_
            have HB := n1_
            clear n0_ n1_
            (try clear hb)
            (try clear hb2)
            (try clear hk)
            (try clear hi)
            refine hK.out _ _ ⟨HS0_, HS1_, HS2_, HS3_, HS4_, HS5_, HS6_, HS7_, HS8_, HS9_, HS10_, HS11_, HS12_, HS13_, HS14_, HS15_⟩ (fun hHeld => ?_)
            clear hK K
            refine norm_ (a' := ?_) ?_ ?_
            rotate_left
            · show Act.put _ (some 75) _ = _
              simp only [Act.put, List.setIfInBounds_toArray, List.set_cons_zero, List.set_cons_succ, i64_w, i32_w]
              rfl
            refine pure_ (i := 21) (N := some 81) (v := ?_) (a' := ?_) #[true, true, true, true, true, true, true, true, true, true, true, true, true, true, true, true, true, true, true, true, true, true] rfl rfl (any_of HT_.out (by kernel_rfl)) (fun _ _ _ h => h) (Or.inl ⟨by rfl, ?_⟩) ?_ ?_
            rotate_left
            · intro w'
              go_simp
              with_reducible rfl
            rotate_left
            · simp only [Act.put, List.setIfInBounds_toArray, List.set_cons_zero, List.set_cons_succ, i64_w, i32_w]
              rfl
            refine done_ (done_of HT_.out (by kernel_rfl)) ?_
            try go_wp2
            go_roundg k1
            case measure => have := HK1.out; omega
            case rel => exact ⟨(wrap64 (x2_1 + 1)), (by first | rfl | (simp; done) | (simp [*]; done)), H', ⟨by have := HK1.out; omega⟩, ⟨by (with_reducible repeat (first | apply Kd.R_alloc | apply Kd.R_drewN | apply Kd.R_drew)); exact HO_1.out⟩, ⟨by repeat (first | (with_reducible first | exact HB.out | apply below_alloc | apply pw_below_drewN | apply below_drew1) | exact HB.out)⟩⟩
          · rw [if_neg c6] at H
            have c6b0 : (t156 == ((rd_T39 y150 x2_1).f3)) = false := beq_eq_false_iff_ne.mpr c6
            have c6b1 : (t156 != ((rd_T39 y150 x2_1).f3)) = true := bne_iff_ne.mpr c6
            obtain rfl := Option.some.inj H
            obtain ⟨Ao10, co10, eo10⟩ := Kd.R_slice HO_1.out
            subst eo10
            try go_wp2
            have n0_ := Aside0.mk (Kd.R_drew HO_1.out)
            have n1_ := Aside0.mk (below_drew1 HB.out)
            clear HO_1
            clear HB
            have HO_1 := n0_
            have HB := n1_
            clear n0_ n1_
            have p153 : 0 ≤ (x2_1 : Int) := of_decide_eq_true (by first | (with_reducible assumption) | assumption)
            have q153 : x2_1 < (y150.length : Int) := of_decide_eq_true (by first | (with_reducible assumption) | assumption)
            obtain ⟨ad153, e153, hx153_0, hx153_1, hx153_2, hx153_3⟩ := at_T39 (Kd.R_reads' HO_1.out).2.2 x2_1 p153 q153
            cases e153
            replace p153 := eq_true p153
            replace q153 := eq_true q153
            have p154 : 0 ≤ (x2_1 : Int) := of_decide_eq_true (by first | (with_reducible assumption) | assumption)
            have q154 : x2_1 < (y150.length : Int) := of_decide_eq_true (by first | (with_reducible assumption) | assumption)
            obtain ⟨ad154, e154, hx154_0, hx154_1, hx154_2, hx154_3⟩ := at_T39 (Kd.R_reads' HO_1.out).2.2 x2_1 p154 q154
            obtain rfl : ad153 = ad154 := (by injection e154)
            replace p154 := eq_true p154
            replace q154 := eq_true q154
            have p155 : 0 ≤ (x2_1 : Int) := of_decide_eq_true (by first | (with_reducible assumption) | assumption)
            have q155 : x2_1 < (y150.length : Int) := of_decide_eq_true (by first | (with_reducible assumption) | assumption)
            obtain ⟨ad155, e155, hx155_0, hx155_1, hx155_2, hx155_3⟩ := at_T39 (Kd.R_reads' HO_1.out).2.2 x2_1 p155 q155
            obtain rfl : ad153 = ad155 := (by injection e155)
            replace p155 := eq_true p155
            replace q155 := eq_true q155
            have p157 : 0 ≤ (x2_1 : Int) := of_decide_eq_true (by first | (with_reducible assumption) | assumption)
            have q157 : x2_1 < (y150.length : Int) := of_decide_eq_true (by first | (with_reducible assumption) | assumption)
            obtain ⟨ad157, e157, hx157_0, hx157_1, hx157_2, hx157_3⟩ := at_T39 (Kd.R_reads' HO_1.out).2.2 x2_1 p157 q157
            obtain rfl : ad153 = ad157 := (by injection e157)
            replace p157 := eq_true p157
            replace q157 := eq_true q157
            refine start_ (n := 22) (S := fun w' => w'.cell? (ad153.add ((x2_1).toNat * 4)) = some (.int .i64 ((rd_T39 y150 x2_1).f0)) ∧ w'.cell? ⟨(ad153.add ((x2_1).toNat * 4)).block, (ad153.add ((x2_1).toNat * 4)).off + 1, none⟩ = some (.int .i64 ((rd_T39 y150 x2_1).f1)) ∧ w'.cell? ⟨(ad153.add ((x2_1).toNat * 4)).block, (ad153.add ((x2_1).toNat * 4)).off + 2, none⟩ = some (.int .i64 ((rd_T39 y150 x2_1).f2)) ∧ w'.cell? ⟨(ad153.add ((x2_1).toNat * 4)).block, (ad153.add ((x2_1).toNat * 4)).off + 3, none⟩ = some (.int .i64 ((rd_T39 y150 x2_1).f3)) ∧ w'.cell? (ad153.add ((x2_1).toNat * 4)) = some (.int .i64 ((rd_T39 y150 x2_1).f0)) ∧ w'.cell? ⟨(ad153.add ((x2_1).toNat * 4)).block, (ad153.add ((x2_1).toNat * 4)).off + 1, none⟩ = some (.int .i64 ((rd_T39 y150 x2_1).f1)) ∧ w'.cell? ⟨(ad153.add ((x2_1).toNat * 4)).block, (ad153.add ((x2_1).toNat * 4)).off + 2, none⟩ = some (.int .i64 ((rd_T39 y150 x2_1).f2)) ∧ w'.cell? ⟨(ad153.add ((x2_1).toNat * 4)).block, (ad153.add ((x2_1).toNat * 4)).off + 3, none⟩ = some (.int .i64 ((rd_T39 y150 x2_1).f3)) ∧ w'.cell? (ad153.add ((x2_1).toNat * 4)) = some (.int .i64 ((rd_T39 y150 x2_1).f0)) ∧ w'.cell? ⟨(ad153.add ((x2_1).toNat * 4)).block, (ad153.add ((x2_1).toNat * 4)).off + 1, none⟩ = some (.int .i64 ((rd_T39 y150 x2_1).f1)) ∧ w'.cell? ⟨(ad153.add ((x2_1).toNat * 4)).block, (ad153.add ((x2_1).toNat * 4)).off + 2, none⟩ = some (.int .i64 ((rd_T39 y150 x2_1).f2)) ∧ w'.cell? ⟨(ad153.add ((x2_1).toNat * 4)).block, (ad153.add ((x2_1).toNat * 4)).off + 3, none⟩ = some (.int .i64 ((rd_T39 y150 x2_1).f3)) ∧ w'.cell? (ad153.add ((x2_1).toNat * 4)) = some (.int .i64 ((rd_T39 y150 x2_1).f0)) ∧ w'.cell? ⟨(ad153.add ((x2_1).toNat * 4)).block, (ad153.add ((x2_1).toNat * 4)).off + 1, none⟩ = some (.int .i64 ((rd_T39 y150 x2_1).f1)) ∧ w'.cell? ⟨(ad153.add ((x2_1).toNat * 4)).block, (ad153.add ((x2_1).toNat * 4)).off + 2, none⟩ = some (.int .i64 ((rd_T39 y150 x2_1).f2)) ∧ w'.cell? ⟨(ad153.add ((x2_1).toNat * 4)).block, (ad153.add ((x2_1).toNat * 4)).off + 3, none⟩ = some (.int .i64 ((rd_T39 y150 x2_1).f3))) (ds := []) #[false, false, false, false, false, false, false, false, false, false, false, false, false, false, false, false, false, false, false, false, false, false] (by kernel_rfl) rfl rfl ⟨hx153_0, hx153_1, hx153_2, hx153_3, hx154_0, hx154_1, hx154_2, hx154_3, hx155_0, hx155_1, hx155_2, hx155_3, hx157_0, hx157_1, hx157_2, hx157_3⟩ (fun hHeld => ?_); refine with_tabW tallowlaw01_NumKnown.tab5 tallowlaw01_NumKnown.bits5 (fun HT_ HW_ => ?_)
            generalize wr.drew = w11 at HO_1 HB hx153_0 hx153_1 hx153_2 hx153_3 hx154_0 hx154_1 hx154_2 hx154_3 hx155_0 hx155_1 hx155_2 hx155_3 hx157_0 hx157_1 hx157_2 hx157_3 hHeld ⊢
            refine pure_ (i := 0) (N := some 60) (v := ?_) (a' := ?_) #[true, false, false, false, false, false, false, false, false, false, false, false, false, false, false, false, false, false, false, false, false, false] rfl rfl (any_of HT_.out (by kernel_rfl)) (fun _ _ _ h => h) (Or.inl ⟨by rfl, ?_⟩) ?_ ?_
            rotate_left
            · intro w'
              go_simp
              with_reducible rfl
            rotate_left
            · simp only [Act.put, List.setIfInBounds_toArray, List.set_cons_zero, List.set_cons_succ, i64_w, i32_w]
              rfl
            refine pure_ (i := 1) (N := some 61) (v := ?_) (a' := ?_) #[true, true, false, false, false, false, false, false, false, false, false, false, false, false, false, false, false, false, false, false, false, false] rfl rfl (any_of HT_.out (by kernel_rfl)) (fun _ _ _ h => h) (Or.inl ⟨by rfl, ?_⟩) ?_ ?_
            rotate_left
            · intro w'
              go_simp
              with_reducible rfl
            rotate_left
            · simp only [Act.put, List.setIfInBounds_toArray, List.set_cons_zero, List.set_cons_succ, i64_w, i32_w]
              rfl
            refine pure_ (i := 2) (N := some 62) (v := ?_) (a' := ?_) #[true, true, true, false, false, false, false, false, false, false, false, false, false, false, false, false, false, false, false, false, false, false] rfl rfl (any_of HT_.out (by kernel_rfl)) (fun _ _ _ h => h) (Or.inl ⟨by rfl, ?_⟩) ?_ ?_
            rotate_left
            · intro w'
              go_simp
              with_reducible rfl
            rotate_left
            · simp only [Act.put, List.setIfInBounds_toArray, List.set_cons_zero, List.set_cons_succ, i64_w, i32_w]
              rfl
            refine pure_ (i := 3) (N := some 63) (v := ?_) (a' := ?_) #[true, true, true, true, false, false, false, false, false, false, false, false, false, false, false, false, false, false, false, false, false, false] rfl rfl (any_of HT_.out (by kernel_rfl)) (fun _ _ _ h => h) (Or.inl ⟨by rfl, ?_⟩) ?_ ?_
            rotate_left
            · intro w'
              go_simp
              with_reducible rfl
            rotate_left
            · simp only [Act.put, List.setIfInBounds_toArray, List.set_cons_zero, List.set_cons_succ, i64_w, i32_w]
              rfl
            refine pure_ (i := 5) (N := some 65) (v := ?_) (a' := ?_) #[true, true, true, true, false, true, false, false, false, false, false, false, false, false, false, false, false, false, false, false, false, false] rfl rfl (any_of HT_.out (by kernel_rfl)) (fun _ _ _ h => h) (Or.inl ⟨by rfl, ?_⟩) ?_ ?_
            rotate_left
            · intro w'
              go_simp
              with_reducible rfl
            rotate_left
            · simp only [Act.put, List.setIfInBounds_toArray, List.set_cons_zero, List.set_cons_succ, i64_w, i32_w]
              rfl
            refine pure_ (i := 6) (N := some 66) (v := ?_) (a' := ?_) #[true, true, true, true, false, true, true, false, false, false, false, false, false, false, false, false, false, false, false, false, false, false] rfl rfl (any_of HT_.out (by kernel_rfl)) (fun _ _ _ h => h) (Or.inl ⟨by rfl, ?_⟩) ?_ ?_
            rotate_left
            · intro w'
              go_simp
              with_reducible rfl
            rotate_left
            · simp only [Act.put, List.setIfInBounds_toArray, List.set_cons_zero, List.set_cons_succ, i64_w, i32_w]
              rfl
            refine pure_ (i := 7) (N := some 67) (v := ?_) (a' := ?_) #[true, true, true, true, false, true, true, true, false, false, false, false, false, false, false, false, false, false, false, false, false, false] rfl rfl (any_of HT_.out (by kernel_rfl)) (fun _ _ _ h => h) (Or.inl ⟨by rfl, ?_⟩) ?_ ?_
            rotate_left
            · intro w'
              go_simp
              with_reducible rfl
            rotate_left
            · simp only [Act.put, List.setIfInBounds_toArray, List.set_cons_zero, List.set_cons_succ, i64_w, i32_w]
              rfl
            refine pure_ (i := 8) (N := some 68) (v := ?_) (a' := ?_) #[true, true, true, true, false, true, true, true, true, false, false, false, false, false, false, false, false, false, false, false, false, false] rfl rfl (any_of HT_.out (by kernel_rfl)) (fun _ _ _ h => h) (Or.inl ⟨by rfl, ?_⟩) ?_ ?_
            rotate_left
            · intro w'
              go_simp
              with_reducible rfl
            rotate_left
            · simp only [Act.put, List.setIfInBounds_toArray, List.set_cons_zero, List.set_cons_succ, i64_w, i32_w]
              rfl
            refine pure_ (i := 10) (N := some 70) (v := ?_) (a' := ?_) #[true, true, true, true, false, true, true, true, true, false, true, false, false, false, false, false, false, false, false, false, false, false] rfl rfl (any_of HT_.out (by kernel_rfl)) (fun _ _ _ h => h) (Or.inl ⟨by rfl, ?_⟩) ?_ ?_
            rotate_left
            · intro w'
              go_simp
              with_reducible rfl
            rotate_left
            · simp only [Act.put, List.setIfInBounds_toArray, List.set_cons_zero, List.set_cons_succ, i64_w, i32_w]
              rfl
            refine pure_ (i := 11) (N := some 71) (v := ?_) (a' := ?_) #[true, true, true, true, false, true, true, true, true, false, true, true, false, false, false, false, false, false, false, false, false, false] rfl rfl (any_of HT_.out (by kernel_rfl)) (fun _ _ _ h => h) (Or.inl ⟨by rfl, ?_⟩) ?_ ?_
            rotate_left
            · intro w'
              go_simp
              with_reducible rfl
            rotate_left
            · simp only [Act.put, List.setIfInBounds_toArray, List.set_cons_zero, List.set_cons_succ, i64_w, i32_w]
              rfl
            refine pure_ (i := 12) (N := some 72) (v := ?_) (a' := ?_) #[true, true, true, true, false, true, true, true, true, false, true, true, true, false, false, false, false, false, false, false, false, false] rfl rfl (any_of HT_.out (by kernel_rfl)) (fun _ _ _ h => h) (Or.inl ⟨by rfl, ?_⟩) ?_ ?_
            rotate_left
            · intro w'
              go_simp
              with_reducible rfl
            rotate_left
            · simp only [Act.put, List.setIfInBounds_toArray, List.set_cons_zero, List.set_cons_succ, i64_w, i32_w]
              rfl
            refine pure_ (i := 13) (N := some 73) (v := ?_) (a' := ?_) #[true, true, true, true, false, true, true, true, true, false, true, true, true, true, false, false, false, false, false, false, false, false] rfl rfl (any_of HT_.out (by kernel_rfl)) (fun _ _ _ h => h) (Or.inl ⟨by rfl, ?_⟩) ?_ ?_
            rotate_left
            · intro w'
              go_simp
              with_reducible rfl
            rotate_left
            · simp only [Act.put, List.setIfInBounds_toArray, List.set_cons_zero, List.set_cons_succ, i64_w, i32_w]
              rfl
            refine pure_ (i := 16) (N := some 76) (v := ?_) (a' := ?_) #[true, true, true, true, false, true, true, true, true, false, true, true, true, true, false, false, true, false, false, false, false, false] rfl rfl (any_of HT_.out (by kernel_rfl)) (fun _ _ _ h => h) (Or.inl ⟨by rfl, ?_⟩) ?_ ?_
            rotate_left
            · intro w'
              go_simp
              with_reducible rfl
            rotate_left
            · simp only [Act.put, List.setIfInBounds_toArray, List.set_cons_zero, List.set_cons_succ, i64_w, i32_w]
              rfl
            refine pure_ (i := 17) (N := some 77) (v := ?_) (a' := ?_) #[true, true, true, true, false, true, true, true, true, false, true, true, true, true, false, false, true, true, false, false, false, false] rfl rfl (any_of HT_.out (by kernel_rfl)) (fun _ _ _ h => h) (Or.inl ⟨by rfl, ?_⟩) ?_ ?_
            rotate_left
            · intro w'
              go_simp
              with_reducible rfl
            rotate_left
            · simp only [Act.put, List.setIfInBounds_toArray, List.set_cons_zero, List.set_cons_succ, i64_w, i32_w]
              rfl
            refine pure_ (i := 18) (N := some 78) (v := ?_) (a' := ?_) #[true, true, true, true, false, true, true, true, true, false, true, true, true, true, false, false, true, true, true, false, false, false] rfl rfl (any_of HT_.out (by kernel_rfl)) (fun _ _ _ h => h) (Or.inl ⟨by rfl, ?_⟩) ?_ ?_
            rotate_left
            · intro w'
              go_simp
              with_reducible rfl
            rotate_left
            · simp only [Act.put, List.setIfInBounds_toArray, List.set_cons_zero, List.set_cons_succ, i64_w, i32_w]
              rfl
            refine pure_ (i := 19) (N := some 79) (v := ?_) (a' := ?_) #[true, true, true, true, false, true, true, true, true, false, true, true, true, true, false, false, true, true, true, true, false, false] rfl rfl (any_of HT_.out (by kernel_rfl)) (fun _ _ _ h => h) (Or.inl ⟨by rfl, ?_⟩) ?_ ?_
            rotate_left
            · intro w'
              go_simp
              with_reducible rfl
            rotate_left
            · simp only [Act.put, List.setIfInBounds_toArray, List.set_cons_zero, List.set_cons_succ, i64_w, i32_w]
              rfl
            refine take_ (i := 4) (N := some 64) (v := ?_) (a' := ?_) #[true, true, true, true, true, true, true, true, true, false, true, true, true, true, false, false, true, true, true, true, false, false] rfl rfl (take_ofW HT_.out HW_.out (by kernel_rfl)) (fun _ _ _ h => h) (Or.inl ⟨by rfl, ?_⟩) hHeld ?_ ?_
            rotate_left
            · rintro w' ⟨s0, s1, s2, s3, s4, s5, s6, s7, s8, s9, s10, s11, s12, s13, s14, s15⟩
              go_simp
              with_reducible rfl
            rotate_left
            · simp only [Act.put, List.setIfInBounds_toArray, List.set_cons_zero, List.set_cons_succ, i64_w, i32_w]
              rfl
            refine take_ (i := 9) (N := some 69) (v := ?_) (a' := ?_) #[true, true, true, true, true, true, true, true, true, true, true, true, true, true, false, false, true, true, true, true, false, false] rfl rfl (take_ofW HT_.out HW_.out (by kernel_rfl)) (fun _ _ _ h => h) (Or.inl ⟨by rfl, ?_⟩) hHeld ?_ ?_
            rotate_left
            · rintro w' ⟨s0, s1, s2, s3, s4, s5, s6, s7, s8, s9, s10, s11, s12, s13, s14, s15⟩
              go_simp
              with_reducible rfl
            rotate_left
            · simp only [Act.put, List.setIfInBounds_toArray, List.set_cons_zero, List.set_cons_succ, i64_w, i32_w]
              rfl
            refine take_ (i := 14) (N := some 74) (v := ?_) (a' := ?_) #[true, true, true, true, true, true, true, true, true, true, true, true, true, true, true, false, true, true, true, true, false, false] rfl rfl (take_ofW HT_.out HW_.out (by kernel_rfl)) (fun _ _ _ h => h) (Or.inl ⟨by rfl, ?_⟩) hHeld ?_ ?_
            rotate_left
            · rintro w' ⟨s0, s1, s2, s3, s4, s5, s6, s7, s8, s9, s10, s11, s12, s13, s14, s15⟩
              go_simp
              with_reducible rfl
            rotate_left
            · simp only [Act.put, List.setIfInBounds_toArray, List.set_cons_zero, List.set_cons_succ, i64_w, i32_w]
              rfl
            refine take_ (i := 20) (N := some 80) (v := ?_) (a' := ?_) #[true, true, true, true, true, true, true, true, true, true, true, true, true, true, true, false, true, true, true, true, true, false] rfl rfl (take_ofW HT_.out HW_.out (by kernel_rfl)) (fun _ _ _ h => h) (Or.inl ⟨by rfl, ?_⟩) hHeld ?_ ?_
            rotate_left
            · rintro w' ⟨s0, s1, s2, s3, s4, s5, s6, s7, s8, s9, s10, s11, s12, s13, s14, s15⟩
              go_simp
              with_reducible rfl
            rotate_left
            · simp only [Act.put, List.setIfInBounds_toArray, List.set_cons_zero, List.set_cons_succ, i64_w, i32_w]
              rfl
            refine one_ (i := 15) (N := some 75) #[true, true, true, true, true, true, true, true, true, true, true, true, true, true, true, true, true, true, true, true, true, false] rfl rfl (one_of HT_.out (by kernel_rfl)) (by decide) (fun K hK => ?_)
            refine goes_ Tryd.func20 (by kernel_rfl) rfl #[.int .i64 ((rd_T39 y150 x2_1).f0), .int .i64 ((rd_T39 y150 x2_1).f1), .int .i64 ((rd_T39 y150 x2_1).f2)] (by rfl) rfl rfl (by (try simp only [List.map_toArray, List.map_cons, List.map_nil]); first | done | rfl | (simp only [List.length_drop, List.length_take]; rfl)) ?_
            with_reducible refine (tallowlaw01_do.calls ((rd_T39 y150 x2_1).f0) ((rd_T39 y150 x2_1).f1) ((rd_T39 y150 x2_1).f2) t156 _ A5.out).mono ?_
            rintro e w12 ⟨rfl, hb⟩
            have HS0_ := (hb.cell (World.block_lt_of_cell? _ _ (hHeld.1))).trans (hHeld.1)
            have HS1_ := (hb.cell (World.block_lt_of_cell? _ _ (hHeld.2.1))).trans (hHeld.2.1)
            have HS2_ := (hb.cell (World.block_lt_of_cell? _ _ (hHeld.2.2.1))).trans (hHeld.2.2.1)
            have HS3_ := (hb.cell (World.block_lt_of_cell? _ _ (hHeld.2.2.2.1))).trans (hHeld.2.2.2.1)
            have HS4_ := (hb.cell (World.block_lt_of_cell? _ _ (hHeld.2.2.2.2.1))).trans (hHeld.2.2.2.2.1)
            have HS5_ := (hb.cell (World.block_lt_of_cell? _ _ (hHeld.2.2.2.2.2.1))).trans (hHeld.2.2.2.2.2.1)
            have HS6_ := (hb.cell (World.block_lt_of_cell? _ _ (hHeld.2.2.2.2.2.2.1))).trans (hHeld.2.2.2.2.2.2.1)
            have HS7_ := (hb.cell (World.block_lt_of_cell? _ _ (hHeld.2.2.2.2.2.2.2.1))).trans (hHeld.2.2.2.2.2.2.2.1)
            have HS8_ := (hb.cell (World.block_lt_of_cell? _ _ (hHeld.2.2.2.2.2.2.2.2.1))).trans (hHeld.2.2.2.2.2.2.2.2.1)
            have HS9_ := (hb.cell (World.block_lt_of_cell? _ _ (hHeld.2.2.2.2.2.2.2.2.2.1))).trans (hHeld.2.2.2.2.2.2.2.2.2.1)
            have HS10_ := (hb.cell (World.block_lt_of_cell? _ _ (hHeld.2.2.2.2.2.2.2.2.2.2.1))).trans (hHeld.2.2.2.2.2.2.2.2.2.2.1)
            have HS11_ := (hb.cell (World.block_lt_of_cell? _ _ (hHeld.2.2.2.2.2.2.2.2.2.2.2.1))).trans (hHeld.2.2.2.2.2.2.2.2.2.2.2.1)
            have HS12_ := (hb.cell (World.block_lt_of_cell? _ _ (hHeld.2.2.2.2.2.2.2.2.2.2.2.2.1))).trans (hHeld.2.2.2.2.2.2.2.2.2.2.2.2.1)
            have HS13_ := (hb.cell (World.block_lt_of_cell? _ _ (hHeld.2.2.2.2.2.2.2.2.2.2.2.2.2.1))).trans (hHeld.2.2.2.2.2.2.2.2.2.2.2.2.2.1)
            have HS14_ := (hb.cell (World.block_lt_of_cell? _ _ (hHeld.2.2.2.2.2.2.2.2.2.2.2.2.2.2.1))).trans (hHeld.2.2.2.2.2.2.2.2.2.2.2.2.2.2.1)
            have HS15_ := (hb.cell (World.block_lt_of_cell? _ _ (hHeld.2.2.2.2.2.2.2.2.2.2.2.2.2.2.2))).trans (hHeld.2.2.2.2.2.2.2.2.2.2.2.2.2.2.2)
            refine ⟨_, rfl, ?_⟩
            have n0_ := Aside0.mk (Kd.R_below (by (with_reducible repeat (first | apply Kd.R_alloc | apply Kd.R_drewN | apply Kd.R_drew)); exact HO_1.out) hb)
            have n1_ := Aside0.mk (below_step (by repeat (first | (with_reducible first | exact HB.out | apply below_alloc | apply pw_below_drewN | apply below_drew1) | exact HB.out)) hb)
            clear HO_1
            clear HB
            have HO_1 := n0_
            have HB := n1_
            clear n0_ n1_
            (try clear hb)
            (try clear hb2)
            (try clear hk)
            (try clear hi)
            refine hK.out _ _ ⟨HS0_, HS1_, HS2_, HS3_, HS4_, HS5_, HS6_, HS7_, HS8_, HS9_, HS10_, HS11_, HS12_, HS13_, HS14_, HS15_⟩ (fun hHeld => ?_)
            clear hK K
            refine norm_ (a' := ?_) ?_ ?_
            rotate_left
            · show Act.put _ (some 75) _ = _
              simp only [Act.put, List.setIfInBounds_toArray, List.set_cons_zero, List.set_cons_succ, i64_w, i32_w]
              rfl
            refine pure_ (i := 21) (N := some 81) (v := ?_) (a' := ?_) #[true, true, true, true, true, true, true, true, true, true, true, true, true, true, true, true, true, true, true, true, true, true] rfl rfl (any_of HT_.out (by kernel_rfl)) (fun _ _ _ h => h) (Or.inl ⟨by rfl, ?_⟩) ?_ ?_
            rotate_left
            · intro w'
              go_simp
              with_reducible rfl
            rotate_left
            · simp only [Act.put, List.setIfInBounds_toArray, List.set_cons_zero, List.set_cons_succ, i64_w, i32_w]
              rfl
            refine done_ (done_of HT_.out (by kernel_rfl)) ?_
            try go_wp2
            go_ret
            exact ⟨by first | rfl | (simp [errW_none, errW_some] <;> rfl) | (simp [*, errW_none, errW_some] <;> rfl), by repeat (first | (with_reducible first | exact HB.out | apply below_alloc | apply pw_below_drewN | apply below_drew1) | exact HB.out)⟩
        · rw [if_neg c4] at H
          exact absurd H (by simp)
      · rw [if_neg c3] at H
        have c3b0 : decide (x2_1 < (y150.length : Int)) = false := decide_eq_false c3
        clear c3
        obtain ⟨y158, hy158⟩ : ∃ y_ : List ByteArray, y_ = (([(⟨#[48, 49]⟩ : ByteArray), (⟨#[45, 48]⟩ : ByteArray), (⟨#[]⟩ : ByteArray), (⟨#[45]⟩ : ByteArray), (⟨#[43, 49]⟩ : ByteArray), (⟨#[48, 48, 48, 48, 48, 48, 48, 48, 48, 48, 48, 48, 48, 48, 48, 48, 48, 48, 48, 48, 48, 48, 48]⟩ : ByteArray), (⟨#[49, 32]⟩ : ByteArray), (⟨#[32, 49]⟩ : ByteArray), (⟨#[45, 45, 49]⟩ : ByteArray), (⟨#[49, 97]⟩ : ByteArray), (⟨#[57, 50, 50, 51, 51, 55, 50, 48, 51, 54, 56, 53, 52, 55, 55, 53, 56, 48, 56]⟩ : ByteArray), (⟨#[45, 57, 50, 50, 51, 51, 55, 50, 48, 51, 54, 56, 53, 52, 55, 55, 53, 56, 48, 57]⟩ : ByteArray), (⟨#[57, 57, 57, 57, 57, 57, 57, 57, 57, 57, 57, 57, 57, 57, 57, 57, 57, 57, 57, 57, 57, 57, 57, 57, 57, 57]⟩ : ByteArray)] : List ByteArray)) := ⟨_, rfl⟩
        replace H : (tallowlaw01_NumKnown.l1 k1 y158 (y158.length : Int) 0) = some r := by first | (rw [hy158]; with_reducible exact H) | (have H2_ := (Option.bind_some _ _).symm.trans H; rw [hy158]; with_reducible exact H2_) | (have H2_ := (Option.bind_some _ _).symm.trans H; with_reducible exact H2_) | with_reducible exact H | (rw [hy158]; exact H) | exact H
        have Ny158 := Aside0.mk hy158
        clear hy158
        have H' := Aside0.mk H
        clear H
        obtain ⟨Ao13, co13, eo13⟩ := Kd.R_slice HO_1.out
        subst eo13
        go_wp2_with (first | ((with_reducible refine gate_dst (N := 82) rfl ?_); refine Kd.R_lit Kd.string _ 9 ?hg (N := 82) ?hd (xs := ([(⟨#[48, 49]⟩ : ByteArray), (⟨#[45, 48]⟩ : ByteArray), (⟨#[]⟩ : ByteArray), (⟨#[45]⟩ : ByteArray), (⟨#[43, 49]⟩ : ByteArray), (⟨#[48, 48, 48, 48, 48, 48, 48, 48, 48, 48, 48, 48, 48, 48, 48, 48, 48, 48, 48, 48, 48, 48, 48]⟩ : ByteArray), (⟨#[49, 32]⟩ : ByteArray), (⟨#[32, 49]⟩ : ByteArray), (⟨#[45, 45, 49]⟩ : ByteArray), (⟨#[49, 97]⟩ : ByteArray), (⟨#[57, 50, 50, 51, 51, 55, 50, 48, 51, 54, 56, 53, 52, 55, 55, 53, 56, 48, 56]⟩ : ByteArray), (⟨#[45, 57, 50, 50, 51, 51, 55, 50, 48, 51, 54, 56, 53, 52, 55, 55, 53, 56, 48, 57]⟩ : ByteArray), (⟨#[57, 57, 57, 57, 57, 57, 57, 57, 57, 57, 57, 57, 57, 57, 57, 57, 57, 57, 57, 57, 57, 57, 57, 57, 57, 57]⟩ : ByteArray)] : List ByteArray)) (inner := [.string (⟨#[48, 49]⟩ : ByteArray), .string (⟨#[45, 48]⟩ : ByteArray), .string (⟨#[]⟩ : ByteArray), .string (⟨#[45]⟩ : ByteArray), .string (⟨#[43, 49]⟩ : ByteArray), .string (⟨#[48, 48, 48, 48, 48, 48, 48, 48, 48, 48, 48, 48, 48, 48, 48, 48, 48, 48, 48, 48, 48, 48, 48]⟩ : ByteArray), .string (⟨#[49, 32]⟩ : ByteArray), .string (⟨#[32, 49]⟩ : ByteArray), .string (⟨#[45, 45, 49]⟩ : ByteArray), .string (⟨#[49, 97]⟩ : ByteArray), .string (⟨#[57, 50, 50, 51, 51, 55, 50, 48, 51, 54, 56, 53, 52, 55, 55, 53, 56, 48, 56]⟩ : ByteArray), .string (⟨#[45, 57, 50, 50, 51, 51, 55, 50, 48, 51, 54, 56, 53, 52, 55, 55, 53, 56, 48, 57]⟩ : ByteArray), .string (⟨#[57, 57, 57, 57, 57, 57, 57, 57, 57, 57, 57, 57, 57, 57, 57, 57, 57, 57, 57, 57, 57, 57, 57, 57, 57, 57]⟩ : ByteArray)]) (ok := fun _ => True) (okp := fun _ => True) ?hr ?hp (fun _ hk => hk) trivial (Below.refl _ _) (Nat.le_refl _) (by simp) ?_; (case hd => rfl); (case hg => rfl); (case hr => first | (go_simp; done) | (go_simp; rfl)); (case hp => exact (Reps.one (show Kd.M Kd.string _ _ _ (⟨#[48, 49]⟩ : ByteArray) [.string (⟨#[48, 49]⟩ : ByteArray)] from rfl) (Reps.one (show Kd.M Kd.string _ _ _ (⟨#[45, 48]⟩ : ByteArray) [.string (⟨#[45, 48]⟩ : ByteArray)] from rfl) (Reps.one (show Kd.M Kd.string _ _ _ (⟨#[]⟩ : ByteArray) [.string (⟨#[]⟩ : ByteArray)] from rfl) (Reps.one (show Kd.M Kd.string _ _ _ (⟨#[45]⟩ : ByteArray) [.string (⟨#[45]⟩ : ByteArray)] from rfl) (Reps.one (show Kd.M Kd.string _ _ _ (⟨#[43, 49]⟩ : ByteArray) [.string (⟨#[43, 49]⟩ : ByteArray)] from rfl) (Reps.one (show Kd.M Kd.string _ _ _ (⟨#[48, 48, 48, 48, 48, 48, 48, 48, 48, 48, 48, 48, 48, 48, 48, 48, 48, 48, 48, 48, 48, 48, 48]⟩ : ByteArray) [.string (⟨#[48, 48, 48, 48, 48, 48, 48, 48, 48, 48, 48, 48, 48, 48, 48, 48, 48, 48, 48, 48, 48, 48, 48]⟩ : ByteArray)] from rfl) (Reps.one (show Kd.M Kd.string _ _ _ (⟨#[49, 32]⟩ : ByteArray) [.string (⟨#[49, 32]⟩ : ByteArray)] from rfl) (Reps.one (show Kd.M Kd.string _ _ _ (⟨#[32, 49]⟩ : ByteArray) [.string (⟨#[32, 49]⟩ : ByteArray)] from rfl) (Reps.one (show Kd.M Kd.string _ _ _ (⟨#[45, 45, 49]⟩ : ByteArray) [.string (⟨#[45, 45, 49]⟩ : ByteArray)] from rfl) (Reps.one (show Kd.M Kd.string _ _ _ (⟨#[49, 97]⟩ : ByteArray) [.string (⟨#[49, 97]⟩ : ByteArray)] from rfl) (Reps.one (show Kd.M Kd.string _ _ _ (⟨#[57, 50, 50, 51, 51, 55, 50, 48, 51, 54, 56, 53, 52, 55, 55, 53, 56, 48, 56]⟩ : ByteArray) [.string (⟨#[57, 50, 50, 51, 51, 55, 50, 48, 51, 54, 56, 53, 52, 55, 55, 53, 56, 48, 56]⟩ : ByteArray)] from rfl) (Reps.one (show Kd.M Kd.string _ _ _ (⟨#[45, 57, 50, 50, 51, 51, 55, 50, 48, 51, 54, 56, 53, 52, 55, 55, 53, 56, 48, 57]⟩ : ByteArray) [.string (⟨#[45, 57, 50, 50, 51, 51, 55, 50, 48, 51, 54, 56, 53, 52, 55, 55, 53, 56, 48, 57]⟩ : ByteArray)] from rfl) (Reps.one (show Kd.M Kd.string _ _ _ (⟨#[57, 57, 57, 57, 57, 57, 57, 57, 57, 57, 57, 57, 57, 57, 57, 57, 57, 57, 57, 57, 57, 57, 57, 57, 57, 57]⟩ : ByteArray) [.string (⟨#[57, 57, 57, 57, 57, 57, 57, 57, 57, 57, 57, 57, 57, 57, 57, 57, 57, 57, 57, 57, 57, 57, 57, 57, 57, 57]⟩ : ByteArray)] from rfl) (Reps.none _ _))))))))))))))); intro v159 w14 ho15 hb hg_ hnew_; clear hg_ hnew_; (first | rw [← Ny158.out] at ho15 | (simp only [Int.reduceToNat] at ho15; rw [← Ny158.out] at ho15)); have n0_ := Aside0.mk (Kd.R_below (by (with_reducible repeat (first | apply Kd.R_alloc | apply Kd.R_drewN | apply Kd.R_drew)); exact HO_1.out) hb); have n1_ := Aside0.mk (Kd.R_lower ho15 (below_size (by repeat (first | (with_reducible first | exact HB.out | apply below_alloc | apply pw_below_drewN | apply below_drew1) | exact HB.out)))); have n2_ := Aside0.mk (below_step (by repeat (first | (with_reducible first | exact HB.out | apply below_alloc | apply pw_below_drewN | apply below_drew1) | exact HB.out)) hb); clear HO_1; clear HB; have HO_1 := n0_; have HO160 := n1_; have HB := n2_; clear n0_ n1_ n2_; clear hb ho15; obtain ⟨Ao16, co16, eo16⟩ := Kd.R_slice HO160.out; subst eo16))
        go_loopg [84] k1 (fun kq v84 w' => ∃ (x84_2 : Int), v84 = .int .i64 x84_2 ∧ Aside0 (tallowlaw01_NumKnown.l1 kq y158 (y158.length : Int) x84_2 = some r) ∧ Aside0 (kq ≤ k1) ∧ Aside0 (Kd.R Kd.string 9 w' w.heap.size (fun _ => True) (.slice Ao16 y158.length co16) y158) ∧ Aside0 (Below w.heap.size w w'))
        case atStart => exact ⟨(0), (by first | rfl | (simp; done) | (simp [*]; done)), H', ⟨Nat.le_refl _⟩, ⟨by (with_reducible repeat (first | apply Kd.R_alloc | apply Kd.R_drewN | apply Kd.R_drew)); exact HO160.out⟩, ⟨by repeat (first | (with_reducible first | exact HB.out | apply below_alloc | apply pw_below_drewN | apply below_drew1) | exact HB.out)⟩⟩
        case round =>
          clear H'
          try clear c1
          try clear p1
          try clear q1
          try clear hx1
          try clear c2
          try clear p2
          try clear c3
          try clear c3b0
          try clear c4
          try clear c4b0
          try clear c6
          try clear c6b0
          try clear c6b1
          try clear p6
          try clear c12
          try clear p15
          try clear q15
          try clear hx15
          try clear hx153_0
          try clear hx153_1
          try clear hx153_2
          try clear hx153_3
          try clear hx154_0
          try clear hx154_1
          try clear hx154_2
          try clear hx154_3
          try clear hx155_0
          try clear hx155_1
          try clear hx155_2
          try clear hx155_3
          try clear hx157_0
          try clear hx157_1
          try clear hx157_2
          try clear hx157_3
          try clear p153
          try clear p154
          try clear p155
          try clear p157
          try clear p2
          try clear q153
          try clear q154
          try clear q155
          try clear q157
          obtain ⟨x84_2, rfl, HA, HK2, HO_82, HB⟩ := hrel
          cases gk with
          | zero => exact absurd HA.out (by simp [tallowlaw01_NumKnown.l1])
          | succ k2 =>
            have H := HA.out
            clear HA
            simp only [tallowlaw01_NumKnown.l1] at H
            by_cases c17 : x84_2 < (y158.length : Int)
            · rw [if_pos c17] at H
              have c17b0 : decide (x84_2 < (y158.length : Int)) = true := decide_eq_true c17
              clear c17
              by_cases c18 : 0 ≤ x84_2
              · rw [if_pos c18] at H
                have c18b0 : decide (0 ≤ x84_2) = true := decide_eq_true c18
                clear c18
                by_cases c19 : x84_2 < (y158.length : Int)
                · rw [if_pos c19] at H
                  have c19b0 : decide (x84_2 < (y158.length : Int)) = true := decide_eq_true c19
                  clear c19
                  by_cases c20 : x84_2 > 9
                  · rw [if_pos c20] at H
                    have c20b0 : decide (9 < x84_2) = true := decide_eq_true c20
                    clear c20
                    replace H := Option.bind_eq_some_iff.mp H
                    obtain ⟨⟨t162, t163⟩, A210, H⟩ := H
                    replace H : (if t162 = 0 then (if t163 = 15 then (tallowlaw01_NumKnown.l1 k2 y158 (y158.length : Int) (wrap64 (x84_2 + 1))) else (some false)) else (some false)) = some r := H
                    have A21 := Aside0.mk A210
                    clear A210
                    by_cases c22 : t162 = 0
                    · rw [if_pos c22] at H
                      have c22b0 : (t162 == 0) = true := beq_iff_eq.mpr c22
                      have c22b1 : (t162 != 0) = false := bne_eq_false_iff_eq.mpr c22
                      clear c22
                      by_cases c23 : t163 = 15
                      · rw [if_pos c23] at H
                        have c23b0 : (t163 == 15) = true := beq_iff_eq.mpr c23
                        have c23b1 : (t163 != 15) = false := bne_eq_false_iff_eq.mpr c23
                        clear c23
                        have H' := Aside0.mk H
                        clear H
                        have p161 : 0 ≤ (x84_2 : Int) := of_decide_eq_true (by first | (with_reducible assumption) | assumption)
                        have q161 : x84_2 < (y158.length : Int) := of_decide_eq_true (by first | (with_reducible assumption) | assumption)
                        obtain ⟨ad161, e161, hx161_0⟩ := Kd.at_string (Kd.R_reads' HO_82.out).2.2 x84_2 p161 q161
                        cases e161
                        replace p161 := eq_true p161
                        replace q161 := eq_true q161
                        go_wp2_with (first | ((with_reducible refine gate_callee (f := 18) rfl ?_); refine goesL_ (some 93) rfl rfl Tryd.func18 (by kernel_rfl) rfl #[.string (rdOf ByteArray.empty y158 x84_2)] rfl (by (try simp only [List.map_toArray, List.map_cons, List.map_nil]); first | done | rfl | (simp only [List.length_drop, List.length_take]; rfl)) ?_; (with_reducible refine (num_Parse.calls (rdOf ByteArray.empty y158 x84_2) t162 t163 _ (LaidS.toLaid (LaidS.below (by repeat (first | (with_reducible first | exact HB.out | apply below_alloc | apply pw_below_drewN | apply below_drew1) | exact HB.out)) HL.out)) A21.out).mono ?_); rintro e w24 ⟨rfl, hb⟩; refine ⟨_, rfl, ?_⟩; have n0_ := Aside0.mk (Kd.R_below (by (with_reducible repeat (first | apply Kd.R_alloc | apply Kd.R_drewN | apply Kd.R_drew)); exact HO_82.out) hb); have n1_ := Aside0.mk (below_step (by repeat (first | (with_reducible first | exact HB.out | apply below_alloc | apply pw_below_drewN | apply below_drew1) | exact HB.out)) hb); clear HO_82; clear HB; have HO_82 := n0_; have HB := n1_; clear n0_ n1_; (try clear hb); (try clear hb2); (try clear hk); (try clear hi)))
                        go_roundg k2
                        case measure => have := HK1.out; have := HK2.out; omega
                        case rel => exact ⟨(wrap64 (x84_2 + 1)), (by first | rfl | (simp; done) | (simp [*]; done)), H', ⟨by have := HK1.out; have := HK2.out; omega⟩, ⟨by (with_reducible repeat (first | apply Kd.R_alloc | apply Kd.R_drewN | apply Kd.R_drew)); exact HO_82.out⟩, ⟨by repeat (first | (with_reducible first | exact HB.out | apply below_alloc | apply pw_below_drewN | apply below_drew1) | exact HB.out)⟩⟩
                      · rw [if_neg c23] at H
                        have c23b0 : (t163 == 15) = false := beq_eq_false_iff_ne.mpr c23
                        have c23b1 : (t163 != 15) = true := bne_iff_ne.mpr c23
                        obtain rfl := Option.some.inj H
                        have p161 : 0 ≤ (x84_2 : Int) := of_decide_eq_true (by first | (with_reducible assumption) | assumption)
                        have q161 : x84_2 < (y158.length : Int) := of_decide_eq_true (by first | (with_reducible assumption) | assumption)
                        obtain ⟨ad161, e161, hx161_0⟩ := Kd.at_string (Kd.R_reads' HO_82.out).2.2 x84_2 p161 q161
                        cases e161
                        replace p161 := eq_true p161
                        replace q161 := eq_true q161
                        go_wp2_with (first | ((with_reducible refine gate_callee (f := 18) rfl ?_); refine goesL_ (some 93) rfl rfl Tryd.func18 (by kernel_rfl) rfl #[.string (rdOf ByteArray.empty y158 x84_2)] rfl (by (try simp only [List.map_toArray, List.map_cons, List.map_nil]); first | done | rfl | (simp only [List.length_drop, List.length_take]; rfl)) ?_; (with_reducible refine (num_Parse.calls (rdOf ByteArray.empty y158 x84_2) t162 t163 _ (LaidS.toLaid (LaidS.below (by repeat (first | (with_reducible first | exact HB.out | apply below_alloc | apply pw_below_drewN | apply below_drew1) | exact HB.out)) HL.out)) A21.out).mono ?_); rintro e w25 ⟨rfl, hb⟩; refine ⟨_, rfl, ?_⟩; have n0_ := Aside0.mk (Kd.R_below (by (with_reducible repeat (first | apply Kd.R_alloc | apply Kd.R_drewN | apply Kd.R_drew)); exact HO_82.out) hb); have n1_ := Aside0.mk (below_step (by repeat (first | (with_reducible first | exact HB.out | apply below_alloc | apply pw_below_drewN | apply below_drew1) | exact HB.out)) hb); clear HO_82; clear HB; have HO_82 := n0_; have HB := n1_; clear n0_ n1_; (try clear hb); (try clear hb2); (try clear hk); (try clear hi)))
                        go_ret
                        exact ⟨by first | rfl | (simp [errW_none, errW_some] <;> rfl) | (simp [*, errW_none, errW_some] <;> rfl), by repeat (first | (with_reducible first | exact HB.out | apply below_alloc | apply pw_below_drewN | apply below_drew1) | exact HB.out)⟩
                    · rw [if_neg c22] at H
                      have c22b0 : (t162 == 0) = false := beq_eq_false_iff_ne.mpr c22
                      have c22b1 : (t162 != 0) = true := bne_iff_ne.mpr c22
                      obtain rfl := Option.some.inj H
                      have p161 : 0 ≤ (x84_2 : Int) := of_decide_eq_true (by first | (with_reducible assumption) | assumption)
                      have q161 : x84_2 < (y158.length : Int) := of_decide_eq_true (by first | (with_reducible assumption) | assumption)
                      obtain ⟨ad161, e161, hx161_0⟩ := Kd.at_string (Kd.R_reads' HO_82.out).2.2 x84_2 p161 q161
                      cases e161
                      replace p161 := eq_true p161
                      replace q161 := eq_true q161
                      go_wp2_with (first | ((with_reducible refine gate_callee (f := 18) rfl ?_); refine goesL_ (some 93) rfl rfl Tryd.func18 (by kernel_rfl) rfl #[.string (rdOf ByteArray.empty y158 x84_2)] rfl (by (try simp only [List.map_toArray, List.map_cons, List.map_nil]); first | done | rfl | (simp only [List.length_drop, List.length_take]; rfl)) ?_; (with_reducible refine (num_Parse.calls (rdOf ByteArray.empty y158 x84_2) t162 t163 _ (LaidS.toLaid (LaidS.below (by repeat (first | (with_reducible first | exact HB.out | apply below_alloc | apply pw_below_drewN | apply below_drew1) | exact HB.out)) HL.out)) A21.out).mono ?_); rintro e w26 ⟨rfl, hb⟩; refine ⟨_, rfl, ?_⟩; have n0_ := Aside0.mk (Kd.R_below (by (with_reducible repeat (first | apply Kd.R_alloc | apply Kd.R_drewN | apply Kd.R_drew)); exact HO_82.out) hb); have n1_ := Aside0.mk (below_step (by repeat (first | (with_reducible first | exact HB.out | apply below_alloc | apply pw_below_drewN | apply below_drew1) | exact HB.out)) hb); clear HO_82; clear HB; have HO_82 := n0_; have HB := n1_; clear n0_ n1_; (try clear hb); (try clear hb2); (try clear hk); (try clear hi)))
                      go_ret
                      exact ⟨by first | rfl | (simp [errW_none, errW_some] <;> rfl) | (simp [*, errW_none, errW_some] <;> rfl), by repeat (first | (with_reducible first | exact HB.out | apply below_alloc | apply pw_below_drewN | apply below_drew1) | exact HB.out)⟩
                  · rw [if_neg c20] at H
                    have c20b0 : decide (9 < x84_2) = false := decide_eq_false c20
                    clear c20
                    replace H := Option.bind_eq_some_iff.mp H
                    obtain ⟨⟨t164, t165⟩, A270, H⟩ := H
                    replace H : (if t164 = 0 then (if t165 = 4 then (tallowlaw01_NumKnown.l1 k2 y158 (y158.length : Int) (wrap64 (x84_2 + 1))) else (some false)) else (some false)) = some r := H
                    have A27 := Aside0.mk A270
                    clear A270
                    by_cases c28 : t164 = 0
                    · rw [if_pos c28] at H
                      have c28b0 : (t164 == 0) = true := beq_iff_eq.mpr c28
                      have c28b1 : (t164 != 0) = false := bne_eq_false_iff_eq.mpr c28
                      clear c28
                      by_cases c29 : t165 = 4
                      · rw [if_pos c29] at H
                        have c29b0 : (t165 == 4) = true := beq_iff_eq.mpr c29
                        have c29b1 : (t165 != 4) = false := bne_eq_false_iff_eq.mpr c29
                        clear c29
                        have H' := Aside0.mk H
                        clear H
                        have p161 : 0 ≤ (x84_2 : Int) := of_decide_eq_true (by first | (with_reducible assumption) | assumption)
                        have q161 : x84_2 < (y158.length : Int) := of_decide_eq_true (by first | (with_reducible assumption) | assumption)
                        obtain ⟨ad161, e161, hx161_0⟩ := Kd.at_string (Kd.R_reads' HO_82.out).2.2 x84_2 p161 q161
                        cases e161
                        replace p161 := eq_true p161
                        replace q161 := eq_true q161
                        go_wp2_with (first | ((with_reducible refine gate_callee (f := 18) rfl ?_); refine goesL_ (some 93) rfl rfl Tryd.func18 (by kernel_rfl) rfl #[.string (rdOf ByteArray.empty y158 x84_2)] rfl (by (try simp only [List.map_toArray, List.map_cons, List.map_nil]); first | done | rfl | (simp only [List.length_drop, List.length_take]; rfl)) ?_; (with_reducible refine (num_Parse.calls (rdOf ByteArray.empty y158 x84_2) t164 t165 _ (LaidS.toLaid (LaidS.below (by repeat (first | (with_reducible first | exact HB.out | apply below_alloc | apply pw_below_drewN | apply below_drew1) | exact HB.out)) HL.out)) A27.out).mono ?_); rintro e w30 ⟨rfl, hb⟩; refine ⟨_, rfl, ?_⟩; have n0_ := Aside0.mk (Kd.R_below (by (with_reducible repeat (first | apply Kd.R_alloc | apply Kd.R_drewN | apply Kd.R_drew)); exact HO_82.out) hb); have n1_ := Aside0.mk (below_step (by repeat (first | (with_reducible first | exact HB.out | apply below_alloc | apply pw_below_drewN | apply below_drew1) | exact HB.out)) hb); clear HO_82; clear HB; have HO_82 := n0_; have HB := n1_; clear n0_ n1_; (try clear hb); (try clear hb2); (try clear hk); (try clear hi)))
                        go_roundg k2
                        case measure => have := HK1.out; have := HK2.out; omega
                        case rel => exact ⟨(wrap64 (x84_2 + 1)), (by first | rfl | (simp; done) | (simp [*]; done)), H', ⟨by have := HK1.out; have := HK2.out; omega⟩, ⟨by (with_reducible repeat (first | apply Kd.R_alloc | apply Kd.R_drewN | apply Kd.R_drew)); exact HO_82.out⟩, ⟨by repeat (first | (with_reducible first | exact HB.out | apply below_alloc | apply pw_below_drewN | apply below_drew1) | exact HB.out)⟩⟩
                      · rw [if_neg c29] at H
                        have c29b0 : (t165 == 4) = false := beq_eq_false_iff_ne.mpr c29
                        have c29b1 : (t165 != 4) = true := bne_iff_ne.mpr c29
                        obtain rfl := Option.some.inj H
                        have p161 : 0 ≤ (x84_2 : Int) := of_decide_eq_true (by first | (with_reducible assumption) | assumption)
                        have q161 : x84_2 < (y158.length : Int) := of_decide_eq_true (by first | (with_reducible assumption) | assumption)
                        obtain ⟨ad161, e161, hx161_0⟩ := Kd.at_string (Kd.R_reads' HO_82.out).2.2 x84_2 p161 q161
                        cases e161
                        replace p161 := eq_true p161
                        replace q161 := eq_true q161
                        go_wp2_with (first | ((with_reducible refine gate_callee (f := 18) rfl ?_); refine goesL_ (some 93) rfl rfl Tryd.func18 (by kernel_rfl) rfl #[.string (rdOf ByteArray.empty y158 x84_2)] rfl (by (try simp only [List.map_toArray, List.map_cons, List.map_nil]); first | done | rfl | (simp only [List.length_drop, List.length_take]; rfl)) ?_; (with_reducible refine (num_Parse.calls (rdOf ByteArray.empty y158 x84_2) t164 t165 _ (LaidS.toLaid (LaidS.below (by repeat (first | (with_reducible first | exact HB.out | apply below_alloc | apply pw_below_drewN | apply below_drew1) | exact HB.out)) HL.out)) A27.out).mono ?_); rintro e w31 ⟨rfl, hb⟩; refine ⟨_, rfl, ?_⟩; have n0_ := Aside0.mk (Kd.R_below (by (with_reducible repeat (first | apply Kd.R_alloc | apply Kd.R_drewN | apply Kd.R_drew)); exact HO_82.out) hb); have n1_ := Aside0.mk (below_step (by repeat (first | (with_reducible first | exact HB.out | apply below_alloc | apply pw_below_drewN | apply below_drew1) | exact HB.out)) hb); clear HO_82; clear HB; have HO_82 := n0_; have HB := n1_; clear n0_ n1_; (try clear hb); (try clear hb2); (try clear hk); (try clear hi)))
                        go_ret
                        exact ⟨by first | rfl | (simp [errW_none, errW_some] <;> rfl) | (simp [*, errW_none, errW_some] <;> rfl), by repeat (first | (with_reducible first | exact HB.out | apply below_alloc | apply pw_below_drewN | apply below_drew1) | exact HB.out)⟩
                    · rw [if_neg c28] at H
                      have c28b0 : (t164 == 0) = false := beq_eq_false_iff_ne.mpr c28
                      have c28b1 : (t164 != 0) = true := bne_iff_ne.mpr c28
                      obtain rfl := Option.some.inj H
                      have p161 : 0 ≤ (x84_2 : Int) := of_decide_eq_true (by first | (with_reducible assumption) | assumption)
                      have q161 : x84_2 < (y158.length : Int) := of_decide_eq_true (by first | (with_reducible assumption) | assumption)
                      obtain ⟨ad161, e161, hx161_0⟩ := Kd.at_string (Kd.R_reads' HO_82.out).2.2 x84_2 p161 q161
                      cases e161
                      replace p161 := eq_true p161
                      replace q161 := eq_true q161
                      go_wp2_with (first | ((with_reducible refine gate_callee (f := 18) rfl ?_); refine goesL_ (some 93) rfl rfl Tryd.func18 (by kernel_rfl) rfl #[.string (rdOf ByteArray.empty y158 x84_2)] rfl (by (try simp only [List.map_toArray, List.map_cons, List.map_nil]); first | done | rfl | (simp only [List.length_drop, List.length_take]; rfl)) ?_; (with_reducible refine (num_Parse.calls (rdOf ByteArray.empty y158 x84_2) t164 t165 _ (LaidS.toLaid (LaidS.below (by repeat (first | (with_reducible first | exact HB.out | apply below_alloc | apply pw_below_drewN | apply below_drew1) | exact HB.out)) HL.out)) A27.out).mono ?_); rintro e w32 ⟨rfl, hb⟩; refine ⟨_, rfl, ?_⟩; have n0_ := Aside0.mk (Kd.R_below (by (with_reducible repeat (first | apply Kd.R_alloc | apply Kd.R_drewN | apply Kd.R_drew)); exact HO_82.out) hb); have n1_ := Aside0.mk (below_step (by repeat (first | (with_reducible first | exact HB.out | apply below_alloc | apply pw_below_drewN | apply below_drew1) | exact HB.out)) hb); clear HO_82; clear HB; have HO_82 := n0_; have HB := n1_; clear n0_ n1_; (try clear hb); (try clear hb2); (try clear hk); (try clear hi)))
                      go_ret
                      exact ⟨by first | rfl | (simp [errW_none, errW_some] <;> rfl) | (simp [*, errW_none, errW_some] <;> rfl), by repeat (first | (with_reducible first | exact HB.out | apply below_alloc | apply pw_below_drewN | apply below_drew1) | exact HB.out)⟩
                · rw [if_neg c19] at H
                  exact absurd H (by simp)
              · rw [if_neg c18] at H
                exact absurd H (by simp)
            · rw [if_neg c17] at H
              have c17b0 : decide (x84_2 < (y158.length : Int)) = false := decide_eq_false c17
              clear c17
              replace H := Option.bind_eq_some_iff.mp H
              obtain ⟨⟨t166, t167⟩, A330, H⟩ := H
              replace H : ((num_Parse.f (⟨#[57, 50, 50, 51, 51, 55, 50, 48, 51, 54, 56, 53, 52, 55, 55, 53, 56, 48, 55]⟩ : ByteArray)).bind fun bt168 => ((num_Parse.f (⟨#[48]⟩ : ByteArray)).bind fun bt170 => ((num_Do.f 10 1 1).bind fun bt172 => ((num_Do.f (-1) 1 0).bind fun bt174 => ((num_Do.f 4 1 0).bind fun bt176 => (tallowlaw01_NumKnown.l2 k2 t166 t167 bt168.1 bt168.2 bt170.1 bt170.2 bt172.2 bt174.2 bt176.2 (⟨#[]⟩ : ByteArray) (-1))))))) = some r := H
              have A33 := Aside0.mk A330
              clear A330
              replace H := Option.bind_eq_some_iff.mp H
              obtain ⟨⟨t168, t169⟩, A340, H⟩ := H
              replace H : ((num_Parse.f (⟨#[48]⟩ : ByteArray)).bind fun bt170 => ((num_Do.f 10 1 1).bind fun bt172 => ((num_Do.f (-1) 1 0).bind fun bt174 => ((num_Do.f 4 1 0).bind fun bt176 => (tallowlaw01_NumKnown.l2 k2 t166 t167 t168 t169 bt170.1 bt170.2 bt172.2 bt174.2 bt176.2 (⟨#[]⟩ : ByteArray) (-1)))))) = some r := H
              have A34 := Aside0.mk A340
              clear A340
              replace H := Option.bind_eq_some_iff.mp H
              obtain ⟨⟨t170, t171⟩, A350, H⟩ := H
              replace H : ((num_Do.f 10 1 1).bind fun bt172 => ((num_Do.f (-1) 1 0).bind fun bt174 => ((num_Do.f 4 1 0).bind fun bt176 => (tallowlaw01_NumKnown.l2 k2 t166 t167 t168 t169 t170 t171 bt172.2 bt174.2 bt176.2 (⟨#[]⟩ : ByteArray) (-1))))) = some r := H
              have A35 := Aside0.mk A350
              clear A350
              replace H := Option.bind_eq_some_iff.mp H
              obtain ⟨⟨t172, t173⟩, A360, H⟩ := H
              replace H : ((num_Do.f (-1) 1 0).bind fun bt174 => ((num_Do.f 4 1 0).bind fun bt176 => (tallowlaw01_NumKnown.l2 k2 t166 t167 t168 t169 t170 t171 t173 bt174.2 bt176.2 (⟨#[]⟩ : ByteArray) (-1)))) = some r := H
              have A36 := Aside0.mk A360
              clear A360
              replace H := Option.bind_eq_some_iff.mp H
              obtain ⟨⟨t174, t175⟩, A370, H⟩ := H
              replace H : ((num_Do.f 4 1 0).bind fun bt176 => (tallowlaw01_NumKnown.l2 k2 t166 t167 t168 t169 t170 t171 t173 t175 bt176.2 (⟨#[]⟩ : ByteArray) (-1))) = some r := H
              have A37 := Aside0.mk A370
              clear A370
              replace H := Option.bind_eq_some_iff.mp H
              obtain ⟨⟨t176, t177⟩, A380, H⟩ := H
              replace H : (tallowlaw01_NumKnown.l2 k2 t166 t167 t168 t169 t170 t171 t173 t175 t177 (⟨#[]⟩ : ByteArray) (-1)) = some r := H
              have A38 := Aside0.mk A380
              clear A380
              have H' := Aside0.mk H
              clear H
              go_wp2_with (first | ((with_reducible refine gate_callee (f := 18) rfl ?_); refine goesL_ (some 105) rfl rfl Tryd.func18 (by kernel_rfl) rfl #[.string (⟨#[45, 57, 50, 50, 51, 51, 55, 50, 48, 51, 54, 56, 53, 52, 55, 55, 53, 56, 48, 56]⟩ : ByteArray)] rfl (by (try simp only [List.map_toArray, List.map_cons, List.map_nil]); first | done | rfl | (simp only [List.length_drop, List.length_take]; rfl)) ?_; (with_reducible refine (num_Parse.calls (⟨#[45, 57, 50, 50, 51, 51, 55, 50, 48, 51, 54, 56, 53, 52, 55, 55, 53, 56, 48, 56]⟩ : ByteArray) t166 t167 _ (LaidS.toLaid (LaidS.below (by repeat (first | (with_reducible first | exact HB.out | apply below_alloc | apply pw_below_drewN | apply below_drew1) | exact HB.out)) HL.out)) A33.out).mono ?_); rintro e w39 ⟨rfl, hb⟩; refine ⟨_, rfl, ?_⟩; have n0_ := Aside0.mk (Kd.R_below (by (with_reducible repeat (first | apply Kd.R_alloc | apply Kd.R_drewN | apply Kd.R_drew)); exact HO_82.out) hb); have n1_ := Aside0.mk (below_step (by repeat (first | (with_reducible first | exact HB.out | apply below_alloc | apply pw_below_drewN | apply below_drew1) | exact HB.out)) hb); clear HO_82; clear HB; have HO_82 := n0_; have HB := n1_; clear n0_ n1_; (try clear hb); (try clear hb2); (try clear hk); (try clear hi)) | ((with_reducible refine gate_callee (f := 18) rfl ?_); refine goesL_ (some 109) rfl rfl Tryd.func18 (by kernel_rfl) rfl #[.string (⟨#[57, 50, 50, 51, 51, 55, 50, 48, 51, 54, 56, 53, 52, 55, 55, 53, 56, 48, 55]⟩ : ByteArray)] rfl (by (try simp only [List.map_toArray, List.map_cons, List.map_nil]); first | done | rfl | (simp only [List.length_drop, List.length_take]; rfl)) ?_; (with_reducible refine (num_Parse.calls (⟨#[57, 50, 50, 51, 51, 55, 50, 48, 51, 54, 56, 53, 52, 55, 55, 53, 56, 48, 55]⟩ : ByteArray) t168 t169 _ (LaidS.toLaid (LaidS.below (by repeat (first | (with_reducible first | exact HB.out | apply below_alloc | apply pw_below_drewN | apply below_drew1) | exact HB.out)) HL.out)) A34.out).mono ?_); rintro e w40 ⟨rfl, hb⟩; refine ⟨_, rfl, ?_⟩; have n0_ := Aside0.mk (Kd.R_below (by (with_reducible repeat (first | apply Kd.R_alloc | apply Kd.R_drewN | apply Kd.R_drew)); exact HO_82.out) hb); have n1_ := Aside0.mk (below_step (by repeat (first | (with_reducible first | exact HB.out | apply below_alloc | apply pw_below_drewN | apply below_drew1) | exact HB.out)) hb); clear HO_82; clear HB; have HO_82 := n0_; have HB := n1_; clear n0_ n1_; (try clear hb); (try clear hb2); (try clear hk); (try clear hi)) | ((with_reducible refine gate_callee (f := 18) rfl ?_); refine goesL_ (some 113) rfl rfl Tryd.func18 (by kernel_rfl) rfl #[.string (⟨#[48]⟩ : ByteArray)] rfl (by (try simp only [List.map_toArray, List.map_cons, List.map_nil]); first | done | rfl | (simp only [List.length_drop, List.length_take]; rfl)) ?_; (with_reducible refine (num_Parse.calls (⟨#[48]⟩ : ByteArray) t170 t171 _ (LaidS.toLaid (LaidS.below (by repeat (first | (with_reducible first | exact HB.out | apply below_alloc | apply pw_below_drewN | apply below_drew1) | exact HB.out)) HL.out)) A35.out).mono ?_); rintro e w41 ⟨rfl, hb⟩; refine ⟨_, rfl, ?_⟩; have n0_ := Aside0.mk (Kd.R_below (by (with_reducible repeat (first | apply Kd.R_alloc | apply Kd.R_drewN | apply Kd.R_drew)); exact HO_82.out) hb); have n1_ := Aside0.mk (below_step (by repeat (first | (with_reducible first | exact HB.out | apply below_alloc | apply pw_below_drewN | apply below_drew1) | exact HB.out)) hb); clear HO_82; clear HB; have HO_82 := n0_; have HB := n1_; clear n0_ n1_; (try clear hb); (try clear hb2); (try clear hk); (try clear hi)) | ((with_reducible refine gate_callee (f := 13) rfl ?_); refine goesL_ (some 117) rfl rfl Tryd.func13 (by kernel_rfl) rfl #[.int .i64 10, .int .i64 1, .int .i64 1] rfl (by (try simp only [List.map_toArray, List.map_cons, List.map_nil]); first | done | rfl | (simp only [List.length_drop, List.length_take]; rfl)) ?_; (with_reducible refine (num_Do.calls 10 1 1 t172 t173 _ A36.out).mono ?_); rintro e w42 ⟨rfl, hb⟩; refine ⟨_, rfl, ?_⟩; have n0_ := Aside0.mk (Kd.R_below (by (with_reducible repeat (first | apply Kd.R_alloc | apply Kd.R_drewN | apply Kd.R_drew)); exact HO_82.out) hb); have n1_ := Aside0.mk (below_step (by repeat (first | (with_reducible first | exact HB.out | apply below_alloc | apply pw_below_drewN | apply below_drew1) | exact HB.out)) hb); clear HO_82; clear HB; have HO_82 := n0_; have HB := n1_; clear n0_ n1_; (try clear hb); (try clear hb2); (try clear hk); (try clear hi)) | ((with_reducible refine gate_callee (f := 13) rfl ?_); refine goesL_ (some 121) rfl rfl Tryd.func13 (by kernel_rfl) rfl #[.int .i64 (-1), .int .i64 1, .int .i64 0] rfl (by (try simp only [List.map_toArray, List.map_cons, List.map_nil]); first | done | rfl | (simp only [List.length_drop, List.length_take]; rfl)) ?_; (with_reducible refine (num_Do.calls (-1) 1 0 t174 t175 _ A37.out).mono ?_); rintro e w43 ⟨rfl, hb⟩; refine ⟨_, rfl, ?_⟩; have n0_ := Aside0.mk (Kd.R_below (by (with_reducible repeat (first | apply Kd.R_alloc | apply Kd.R_drewN | apply Kd.R_drew)); exact HO_82.out) hb); have n1_ := Aside0.mk (below_step (by repeat (first | (with_reducible first | exact HB.out | apply below_alloc | apply pw_below_drewN | apply below_drew1) | exact HB.out)) hb); clear HO_82; clear HB; have HO_82 := n0_; have HB := n1_; clear n0_ n1_; (try clear hb); (try clear hb2); (try clear hk); (try clear hi)) | ((with_reducible refine gate_callee (f := 13) rfl ?_); refine goesL_ (some 125) rfl rfl Tryd.func13 (by kernel_rfl) rfl #[.int .i64 4, .int .i64 1, .int .i64 0] rfl (by (try simp only [List.map_toArray, List.map_cons, List.map_nil]); first | done | rfl | (simp only [List.length_drop, List.length_take]; rfl)) ?_; (with_reducible refine (num_Do.calls 4 1 0 t176 t177 _ A38.out).mono ?_); rintro e w44 ⟨rfl, hb⟩; refine ⟨_, rfl, ?_⟩; have n0_ := Aside0.mk (Kd.R_below (by (with_reducible repeat (first | apply Kd.R_alloc | apply Kd.R_drewN | apply Kd.R_drew)); exact HO_82.out) hb); have n1_ := Aside0.mk (below_step (by repeat (first | (with_reducible first | exact HB.out | apply below_alloc | apply pw_below_drewN | apply below_drew1) | exact HB.out)) hb); clear HO_82; clear HB; have HO_82 := n0_; have HB := n1_; clear n0_ n1_; (try clear hb); (try clear hb2); (try clear hk); (try clear hi)))
              go_loopg [20, 21] k2 (fun kq v20 v21 w' => ∃ (x20_3 : ByteArray) (x21_3 : Int), v20 = .string x20_3 ∧ v21 = .int .i64 x21_3 ∧ Aside0 (tallowlaw01_NumKnown.l2 kq t166 t167 t168 t169 t170 t171 t173 t175 t177 x20_3 x21_3 = some r) ∧ Aside0 (kq ≤ k2) ∧ Aside0 (Below w.heap.size w w'))
              case atStart => exact ⟨((⟨#[]⟩ : ByteArray)), ((-1)), (by first | rfl | (simp; done) | (simp [*]; done)), (by first | rfl | (simp; done) | (simp [*]; done)), H', ⟨Nat.le_refl _⟩, ⟨by repeat (first | (with_reducible first | exact HB.out | apply below_alloc | apply pw_below_drewN | apply below_drew1) | exact HB.out)⟩⟩
              case round =>
                clear H'
                try clear c1
                try clear p1
                try clear q1
                try clear hx1
                try clear c2
                try clear p2
                try clear c3
                try clear c3b0
                try clear c4
                try clear c4b0
                try clear c6
                try clear c6b0
                try clear c6b1
                try clear p6
                try clear c12
                try clear c13
                try clear p15
                try clear q15
                try clear hx15
                try clear p16
                try clear q16
                try clear hx16
                try clear c17
                try clear c17b0
                try clear c18
                try clear c18b0
                try clear c19
                try clear c19b0
                try clear c20
                try clear c20b0
                try clear c22
                try clear c22b0
                try clear c22b1
                try clear c23
                try clear c23b0
                try clear c23b1
                try clear c28
                try clear c28b0
                try clear c28b1
                try clear c29
                try clear c29b0
                try clear c29b1
                try clear hx153_0
                try clear hx153_1
                try clear hx153_2
                try clear hx153_3
                try clear hx154_0
                try clear hx154_1
                try clear hx154_2
                try clear hx154_3
                try clear hx155_0
                try clear hx155_1
                try clear hx155_2
                try clear hx155_3
                try clear hx157_0
                try clear hx157_1
                try clear hx157_2
                try clear hx157_3
                try clear hx161_0
                try clear p1
                try clear p15
                try clear p153
                try clear p154
                try clear p155
                try clear p157
                try clear p161
                try clear p2
                try clear p6
                try clear q1
                try clear q15
                try clear q153
                try clear q154
                try clear q155
                try clear q157
                try clear q161
                obtain ⟨x20_3, x21_3, rfl, rfl, HA, HK3, HB⟩ := hrel
                cases gk with
                | zero => exact absurd HA.out (by simp [tallowlaw01_NumKnown.l2])
                | succ k3 =>
                  have H := HA.out
                  clear HA
                  simp only [tallowlaw01_NumKnown.l2] at H
                  by_cases c45 : x21_3 ≤ 10
                  · rw [if_pos c45] at H
                    have c45b0 : decide (x21_3 ≤ 10) = true := decide_eq_true c45
                    clear c45
                    replace H := Option.bind_eq_some_iff.mp H
                    obtain ⟨t178, A460, H⟩ := H
                    replace H : (if x20_3.size + t178.size ≤ 9223372036854775807 then (if (x20_3 ++ t178).size + 1 ≤ 9223372036854775807 then (tallowlaw01_NumKnown.l2 k3 t166 t167 t168 t169 t170 t171 t173 t175 t177 ((x20_3 ++ t178) ++ (⟨#[32]⟩ : ByteArray)) (wrap64 (x21_3 + 1))) else (none)) else (none)) = some r := H
                    have A46 := Aside0.mk A460
                    clear A460
                    by_cases c47 : x20_3.size + t178.size ≤ 9223372036854775807
                    · rw [if_pos c47] at H
                      have c47b0 := eq_true c47
                      have c47b1 : decide (x20_3.size + t178.size ≤ 9223372036854775807) = true := decide_eq_true c47
                      try have c47b2 : (9223372036854775807 < x20_3.size + t178.size) = False := eq_false (Nat.not_lt.2 c47)
                      by_cases c48 : (x20_3 ++ t178).size + 1 ≤ 9223372036854775807
                      · rw [if_pos c48] at H
                        have c48b0 := eq_true c48
                        have c48b1 : decide ((x20_3 ++ t178).size + 1 ≤ 9223372036854775807) = true := decide_eq_true c48
                        try have c48b2 : (9223372036854775807 < (x20_3 ++ t178).size + 1) = False := eq_false (Nat.not_lt.2 c48)
                        have c48c : x20_3.size + t178.size + 1 ≤ 9223372036854775807 := by rw [← ByteArray.size_append]; exact c48
                        have c48d0 := eq_true c48c
                        have c48d2 : (9223372036854775807 < x20_3.size + t178.size + 1) = False := eq_false (Nat.not_lt.2 c48c)
                        have c48d3 : (9223372036854775806 < x20_3.size + t178.size) = False := eq_false (by omega)
                        have c48d4 : (x20_3.size + t178.size ≤ 9223372036854775806) = True := eq_true (by omega)
                        have c48d5 : (x20_3.size + t178.size < 9223372036854775807) = True := eq_true (by omega)
                        have c48d6 : (9223372036854775807 ≤ x20_3.size + t178.size) = False := eq_false (by omega)
                        clear c48c
                        have H' := Aside0.mk H
                        clear H
                        go_wp2_with (first | ((with_reducible refine gate_callee (f := 21) rfl ?_); refine goesL_ (some 134) rfl rfl Tryd.func21 (by kernel_rfl) rfl #[.int .i64 x21_3] rfl (by (try simp only [List.map_toArray, List.map_cons, List.map_nil]); first | done | rfl | (simp only [List.length_drop, List.length_take]; rfl)) ?_; (with_reducible refine (num_Sign.calls x21_3 t178 _ (LaidS.below (by repeat (first | (with_reducible first | exact HB.out | apply below_alloc | apply pw_below_drewN | apply below_drew1) | exact HB.out)) HL.out) A46.out).mono ?_); rintro e w49 ⟨rfl, hb⟩; refine ⟨_, rfl, ?_⟩; have n0_ := Aside0.mk (below_step (by repeat (first | (with_reducible first | exact HB.out | apply below_alloc | apply pw_below_drewN | apply below_drew1) | exact HB.out)) hb); clear HB; have HB := n0_; clear n0_; (try clear hb); (try clear hb2); (try clear hk); (try clear hi)))
                        go_roundg k3
                        case measure => have := HK1.out; have := HK2.out; have := HK3.out; omega
                        case rel => exact ⟨((x20_3 ++ t178) ++ (⟨#[32]⟩ : ByteArray)), (wrap64 (x21_3 + 1)), (by first | rfl | (simp; done) | (simp [*]; done)), (by first | rfl | (simp; done) | (simp [*]; done)), H', ⟨by have := HK1.out; have := HK2.out; have := HK3.out; omega⟩, ⟨by repeat (first | (with_reducible first | exact HB.out | apply below_alloc | apply pw_below_drewN | apply below_drew1) | exact HB.out)⟩⟩
                      · rw [if_neg c48] at H
                        exact absurd H (by simp)
                    · rw [if_neg c47] at H
                      exact absurd H (by simp)
                  · rw [if_neg c45] at H
                    have c45b0 : decide (x21_3 ≤ 10) = false := decide_eq_false c45
                    clear c45
                    by_cases c50 : t166 = (-9223372036854775808)
                    · rw [if_pos c50] at H
                      have c50b0 : (t166 == (-9223372036854775808)) = true := beq_iff_eq.mpr c50
                      have c50b1 : (t166 != (-9223372036854775808)) = false := bne_eq_false_iff_eq.mpr c50
                      clear c50
                      by_cases c51 : t167 = 0
                      · rw [if_pos c51] at H
                        have c51b0 : (t167 == 0) = true := beq_iff_eq.mpr c51
                        have c51b1 : (t167 != 0) = false := bne_eq_false_iff_eq.mpr c51
                        clear c51
                        by_cases c52 : t168 = 9223372036854775807
                        · rw [if_pos c52] at H
                          have c52b0 : (t168 == 9223372036854775807) = true := beq_iff_eq.mpr c52
                          have c52b1 : (t168 != 9223372036854775807) = false := bne_eq_false_iff_eq.mpr c52
                          clear c52
                          by_cases c53 : t169 = 0
                          · rw [if_pos c53] at H
                            have c53b0 : (t169 == 0) = true := beq_iff_eq.mpr c53
                            have c53b1 : (t169 != 0) = false := bne_eq_false_iff_eq.mpr c53
                            clear c53
                            by_cases c54 : t170 = 0
                            · rw [if_pos c54] at H
                              have c54b0 : (t170 == 0) = true := beq_iff_eq.mpr c54
                              have c54b1 : (t170 != 0) = false := bne_eq_false_iff_eq.mpr c54
                              clear c54
                              by_cases c55 : t171 = 0
                              · rw [if_pos c55] at H
                                have c55b0 : (t171 == 0) = true := beq_iff_eq.mpr c55
                                have c55b1 : (t171 != 0) = false := bne_eq_false_iff_eq.mpr c55
                                clear c55
                                by_cases c56 : t173 = 2
                                · rw [if_pos c56] at H
                                  have c56b0 : (t173 == 2) = true := beq_iff_eq.mpr c56
                                  have c56b1 : (t173 != 2) = false := bne_eq_false_iff_eq.mpr c56
                                  clear c56
                                  by_cases c57 : t175 = 2
                                  · rw [if_pos c57] at H
                                    have c57b0 : (t175 == 2) = true := beq_iff_eq.mpr c57
                                    have c57b1 : (t175 != 2) = false := bne_eq_false_iff_eq.mpr c57
                                    clear c57
                                    by_cases c58 : t177 = 8
                                    · rw [if_pos c58] at H
                                      have c58b0 : (t177 == 8) = true := beq_iff_eq.mpr c58
                                      have c58b1 : (t177 != 8) = false := bne_eq_false_iff_eq.mpr c58
                                      clear c58
                                      by_cases c59 : x20_3.toList = ([32, 43, 32, 45, 32, 42, 32, 47, 47, 32, 37, 32, 38, 32, 124, 32, 126, 32, 60, 60, 32, 62, 62, 32, 32] : List UInt8)
                                      · rw [if_pos c59] at H
                                        have c59b0 : (x20_3.toList == ([32, 43, 32, 45, 32, 42, 32, 47, 47, 32, 37, 32, 38, 32, 124, 32, 126, 32, 60, 60, 32, 62, 62, 32, 32] : List UInt8)) = true := beq_iff_eq.mpr c59
                                        have c59b1 : (x20_3.toList != ([32, 43, 32, 45, 32, 42, 32, 47, 47, 32, 37, 32, 38, 32, 124, 32, 126, 32, 60, 60, 32, 62, 62, 32, 32] : List UInt8)) = false := bne_eq_false_iff_eq.mpr c59
                                        clear c59
                                        replace H := Option.bind_eq_some_iff.mp H
                                        obtain ⟨t179, A600, H⟩ := H
                                        replace H : (if t179 = 7 then ((num_Op.f (⟨#[47]⟩ : ByteArray)).bind fun t180 => (if t180 = (-1) then ((num_Op.f (⟨#[]⟩ : ByteArray)).bind fun t181 => (if t181 = (-1) then ((num_Text.f (-9223372036854775808)).bind fun t182 => (if t182.toList = ([45, 57, 50, 50, 51, 51, 55, 50, 48, 51, 54, 56, 53, 52, 55, 55, 53, 56, 48, 56] : List UInt8) then ((num_Text.f 0).bind fun t183 => (if t183.toList = ([48] : List UInt8) then ((tallowlaw01_works.f).bind fun t184 => (some t184)) else (some false))) else (some false))) else (some false))) else (some false))) else (some false)) = some r := H
                                        have A60 := Aside0.mk A600
                                        clear A600
                                        by_cases c61 : t179 = 7
                                        · rw [if_pos c61] at H
                                          have c61b0 : (t179 == 7) = true := beq_iff_eq.mpr c61
                                          have c61b1 : (t179 != 7) = false := bne_eq_false_iff_eq.mpr c61
                                          clear c61
                                          replace H := Option.bind_eq_some_iff.mp H
                                          obtain ⟨t180, A620, H⟩ := H
                                          replace H : (if t180 = (-1) then ((num_Op.f (⟨#[]⟩ : ByteArray)).bind fun t181 => (if t181 = (-1) then ((num_Text.f (-9223372036854775808)).bind fun t182 => (if t182.toList = ([45, 57, 50, 50, 51, 51, 55, 50, 48, 51, 54, 56, 53, 52, 55, 55, 53, 56, 48, 56] : List UInt8) then ((num_Text.f 0).bind fun t183 => (if t183.toList = ([48] : List UInt8) then ((tallowlaw01_works.f).bind fun t184 => (some t184)) else (some false))) else (some false))) else (some false))) else (some false)) = some r := H
                                          have A62 := Aside0.mk A620
                                          clear A620
                                          by_cases c63 : t180 = (-1)
                                          · rw [if_pos c63] at H
                                            have c63b0 : (t180 == (-1)) = true := beq_iff_eq.mpr c63
                                            have c63b1 : (t180 != (-1)) = false := bne_eq_false_iff_eq.mpr c63
                                            clear c63
                                            replace H := Option.bind_eq_some_iff.mp H
                                            obtain ⟨t181, A640, H⟩ := H
                                            replace H : (if t181 = (-1) then ((num_Text.f (-9223372036854775808)).bind fun t182 => (if t182.toList = ([45, 57, 50, 50, 51, 51, 55, 50, 48, 51, 54, 56, 53, 52, 55, 55, 53, 56, 48, 56] : List UInt8) then ((num_Text.f 0).bind fun t183 => (if t183.toList = ([48] : List UInt8) then ((tallowlaw01_works.f).bind fun t184 => (some t184)) else (some false))) else (some false))) else (some false)) = some r := H
                                            have A64 := Aside0.mk A640
                                            clear A640
                                            by_cases c65 : t181 = (-1)
                                            · rw [if_pos c65] at H
                                              have c65b0 : (t181 == (-1)) = true := beq_iff_eq.mpr c65
                                              have c65b1 : (t181 != (-1)) = false := bne_eq_false_iff_eq.mpr c65
                                              clear c65
                                              replace H := Option.bind_eq_some_iff.mp H
                                              obtain ⟨t182, A660, H⟩ := H
                                              replace H : (if t182.toList = ([45, 57, 50, 50, 51, 51, 55, 50, 48, 51, 54, 56, 53, 52, 55, 55, 53, 56, 48, 56] : List UInt8) then ((num_Text.f 0).bind fun t183 => (if t183.toList = ([48] : List UInt8) then ((tallowlaw01_works.f).bind fun t184 => (some t184)) else (some false))) else (some false)) = some r := H
                                              have A66 := Aside0.mk A660
                                              clear A660
                                              by_cases c67 : t182.toList = ([45, 57, 50, 50, 51, 51, 55, 50, 48, 51, 54, 56, 53, 52, 55, 55, 53, 56, 48, 56] : List UInt8)
                                              · rw [if_pos c67] at H
                                                have c67b0 : (t182.toList == ([45, 57, 50, 50, 51, 51, 55, 50, 48, 51, 54, 56, 53, 52, 55, 55, 53, 56, 48, 56] : List UInt8)) = true := beq_iff_eq.mpr c67
                                                have c67b1 : (t182.toList != ([45, 57, 50, 50, 51, 51, 55, 50, 48, 51, 54, 56, 53, 52, 55, 55, 53, 56, 48, 56] : List UInt8)) = false := bne_eq_false_iff_eq.mpr c67
                                                clear c67
                                                replace H := Option.bind_eq_some_iff.mp H
                                                obtain ⟨t183, A680, H⟩ := H
                                                replace H : (if t183.toList = ([48] : List UInt8) then ((tallowlaw01_works.f).bind fun t184 => (some t184)) else (some false)) = some r := H
                                                have A68 := Aside0.mk A680
                                                clear A680
                                                by_cases c69 : t183.toList = ([48] : List UInt8)
                                                · rw [if_pos c69] at H
                                                  have c69b0 : (t183.toList == ([48] : List UInt8)) = true := beq_iff_eq.mpr c69
                                                  have c69b1 : (t183.toList != ([48] : List UInt8)) = false := bne_eq_false_iff_eq.mpr c69
                                                  clear c69
                                                  replace H := Option.bind_eq_some_iff.mp H
                                                  obtain ⟨t184, A700, H⟩ := H
                                                  replace H : (some t184) = some r := H
                                                  have A70 := Aside0.mk A700
                                                  clear A700
                                                  obtain rfl := Option.some.inj H
                                                  go_wp2_with (first | (go_at_call 23; (with_reducible refine (num_Op.calls (⟨#[126]⟩ : ByteArray) t179 _ (LaidS.below (by repeat (first | (with_reducible first | exact HB.out | apply below_alloc | apply pw_below_drewN | apply below_drew1) | exact HB.out)) HL.out) A60.out).mono ?_); rintro e w71 ⟨rfl, hb⟩; have n0_ := Aside0.mk (below_step (by repeat (first | (with_reducible first | exact HB.out | apply below_alloc | apply pw_below_drewN | apply below_drew1) | exact HB.out)) hb); clear HB; have HB := n0_; clear n0_; (try clear hb); (try clear hb2); (try clear hk); (try clear hi)) | (go_at_call 23; (with_reducible refine (num_Op.calls (⟨#[47]⟩ : ByteArray) t180 _ (LaidS.below (by repeat (first | (with_reducible first | exact HB.out | apply below_alloc | apply pw_below_drewN | apply below_drew1) | exact HB.out)) HL.out) A62.out).mono ?_); rintro e w72 ⟨rfl, hb⟩; have n0_ := Aside0.mk (below_step (by repeat (first | (with_reducible first | exact HB.out | apply below_alloc | apply pw_below_drewN | apply below_drew1) | exact HB.out)) hb); clear HB; have HB := n0_; clear n0_; (try clear hb); (try clear hb2); (try clear hk); (try clear hi)) | (go_at_call 23; (with_reducible refine (num_Op.calls (⟨#[]⟩ : ByteArray) t181 _ (LaidS.below (by repeat (first | (with_reducible first | exact HB.out | apply below_alloc | apply pw_below_drewN | apply below_drew1) | exact HB.out)) HL.out) A64.out).mono ?_); rintro e w73 ⟨rfl, hb⟩; have n0_ := Aside0.mk (below_step (by repeat (first | (with_reducible first | exact HB.out | apply below_alloc | apply pw_below_drewN | apply below_drew1) | exact HB.out)) hb); clear HB; have HB := n0_; clear n0_; (try clear hb); (try clear hb2); (try clear hk); (try clear hi)) | (go_at_call 16; (with_reducible refine (num_Text.calls (-9223372036854775808) t182 _ (LaidS.toLaid (LaidS.below (by repeat (first | (with_reducible first | exact HB.out | apply below_alloc | apply pw_below_drewN | apply below_drew1) | exact HB.out)) HL.out)) A66.out).mono ?_); rintro e w74 ⟨rfl, hb⟩; have n0_ := Aside0.mk (below_step (by repeat (first | (with_reducible first | exact HB.out | apply below_alloc | apply pw_below_drewN | apply below_drew1) | exact HB.out)) hb); clear HB; have HB := n0_; clear n0_; (try clear hb); (try clear hb2); (try clear hk); (try clear hi)) | (go_at_call 16; (with_reducible refine (num_Text.calls 0 t183 _ (LaidS.toLaid (LaidS.below (by repeat (first | (with_reducible first | exact HB.out | apply below_alloc | apply pw_below_drewN | apply below_drew1) | exact HB.out)) HL.out)) A68.out).mono ?_); rintro e w75 ⟨rfl, hb⟩; have n0_ := Aside0.mk (below_step (by repeat (first | (with_reducible first | exact HB.out | apply below_alloc | apply pw_below_drewN | apply below_drew1) | exact HB.out)) hb); clear HB; have HB := n0_; clear n0_; (try clear hb); (try clear hb2); (try clear hk); (try clear hi)) | (go_at_call 15; (with_reducible refine (tallowlaw01_works.calls  t184 _ (LaidS.toLaid (LaidS.below (by repeat (first | (with_reducible first | exact HB.out | apply below_alloc | apply pw_below_drewN | apply below_drew1) | exact HB.out)) HL.out)) A70.out).mono ?_); rintro e w76 ⟨rfl, hb⟩; have n0_ := Aside0.mk (below_step (by repeat (first | (with_reducible first | exact HB.out | apply below_alloc | apply pw_below_drewN | apply below_drew1) | exact HB.out)) hb); clear HB; have HB := n0_; clear n0_; (try clear hb); (try clear hb2); (try clear hk); (try clear hi)))
                                                  go_ret
                                                  exact ⟨by first | rfl | (simp [errW_none, errW_some] <;> rfl) | (simp [*, errW_none, errW_some] <;> rfl), by repeat (first | (with_reducible first | exact HB.out | apply below_alloc | apply pw_below_drewN | apply below_drew1) | exact HB.out)⟩
                                                · rw [if_neg c69] at H
                                                  have c69b0 : (t183.toList == ([48] : List UInt8)) = false := beq_eq_false_iff_ne.mpr c69
                                                  have c69b1 : (t183.toList != ([48] : List UInt8)) = true := bne_iff_ne.mpr c69
                                                  obtain rfl := Option.some.inj H
                                                  go_wp2_with (first | (go_at_call 23; (with_reducible refine (num_Op.calls (⟨#[126]⟩ : ByteArray) t179 _ (LaidS.below (by repeat (first | (with_reducible first | exact HB.out | apply below_alloc | apply pw_below_drewN | apply below_drew1) | exact HB.out)) HL.out) A60.out).mono ?_); rintro e w77 ⟨rfl, hb⟩; have n0_ := Aside0.mk (below_step (by repeat (first | (with_reducible first | exact HB.out | apply below_alloc | apply pw_below_drewN | apply below_drew1) | exact HB.out)) hb); clear HB; have HB := n0_; clear n0_; (try clear hb); (try clear hb2); (try clear hk); (try clear hi)) | (go_at_call 23; (with_reducible refine (num_Op.calls (⟨#[47]⟩ : ByteArray) t180 _ (LaidS.below (by repeat (first | (with_reducible first | exact HB.out | apply below_alloc | apply pw_below_drewN | apply below_drew1) | exact HB.out)) HL.out) A62.out).mono ?_); rintro e w78 ⟨rfl, hb⟩; have n0_ := Aside0.mk (below_step (by repeat (first | (with_reducible first | exact HB.out | apply below_alloc | apply pw_below_drewN | apply below_drew1) | exact HB.out)) hb); clear HB; have HB := n0_; clear n0_; (try clear hb); (try clear hb2); (try clear hk); (try clear hi)) | (go_at_call 23; (with_reducible refine (num_Op.calls (⟨#[]⟩ : ByteArray) t181 _ (LaidS.below (by repeat (first | (with_reducible first | exact HB.out | apply below_alloc | apply pw_below_drewN | apply below_drew1) | exact HB.out)) HL.out) A64.out).mono ?_); rintro e w79 ⟨rfl, hb⟩; have n0_ := Aside0.mk (below_step (by repeat (first | (with_reducible first | exact HB.out | apply below_alloc | apply pw_below_drewN | apply below_drew1) | exact HB.out)) hb); clear HB; have HB := n0_; clear n0_; (try clear hb); (try clear hb2); (try clear hk); (try clear hi)) | (go_at_call 16; (with_reducible refine (num_Text.calls (-9223372036854775808) t182 _ (LaidS.toLaid (LaidS.below (by repeat (first | (with_reducible first | exact HB.out | apply below_alloc | apply pw_below_drewN | apply below_drew1) | exact HB.out)) HL.out)) A66.out).mono ?_); rintro e w80 ⟨rfl, hb⟩; have n0_ := Aside0.mk (below_step (by repeat (first | (with_reducible first | exact HB.out | apply below_alloc | apply pw_below_drewN | apply below_drew1) | exact HB.out)) hb); clear HB; have HB := n0_; clear n0_; (try clear hb); (try clear hb2); (try clear hk); (try clear hi)) | (go_at_call 16; (with_reducible refine (num_Text.calls 0 t183 _ (LaidS.toLaid (LaidS.below (by repeat (first | (with_reducible first | exact HB.out | apply below_alloc | apply pw_below_drewN | apply below_drew1) | exact HB.out)) HL.out)) A68.out).mono ?_); rintro e w81 ⟨rfl, hb⟩; have n0_ := Aside0.mk (below_step (by repeat (first | (with_reducible first | exact HB.out | apply below_alloc | apply pw_below_drewN | apply below_drew1) | exact HB.out)) hb); clear HB; have HB := n0_; clear n0_; (try clear hb); (try clear hb2); (try clear hk); (try clear hi)))
                                                  go_ret
                                                  exact ⟨by first | rfl | (simp [errW_none, errW_some] <;> rfl) | (simp [*, errW_none, errW_some] <;> rfl), by repeat (first | (with_reducible first | exact HB.out | apply below_alloc | apply pw_below_drewN | apply below_drew1) | exact HB.out)⟩
                                              · rw [if_neg c67] at H
                                                have c67b0 : (t182.toList == ([45, 57, 50, 50, 51, 51, 55, 50, 48, 51, 54, 56, 53, 52, 55, 55, 53, 56, 48, 56] : List UInt8)) = false := beq_eq_false_iff_ne.mpr c67
                                                have c67b1 : (t182.toList != ([45, 57, 50, 50, 51, 51, 55, 50, 48, 51, 54, 56, 53, 52, 55, 55, 53, 56, 48, 56] : List UInt8)) = true := bne_iff_ne.mpr c67
                                                obtain rfl := Option.some.inj H
                                                go_wp2_with (first | (go_at_call 23; (with_reducible refine (num_Op.calls (⟨#[126]⟩ : ByteArray) t179 _ (LaidS.below (by repeat (first | (with_reducible first | exact HB.out | apply below_alloc | apply pw_below_drewN | apply below_drew1) | exact HB.out)) HL.out) A60.out).mono ?_); rintro e w82 ⟨rfl, hb⟩; have n0_ := Aside0.mk (below_step (by repeat (first | (with_reducible first | exact HB.out | apply below_alloc | apply pw_below_drewN | apply below_drew1) | exact HB.out)) hb); clear HB; have HB := n0_; clear n0_; (try clear hb); (try clear hb2); (try clear hk); (try clear hi)) | (go_at_call 23; (with_reducible refine (num_Op.calls (⟨#[47]⟩ : ByteArray) t180 _ (LaidS.below (by repeat (first | (with_reducible first | exact HB.out | apply below_alloc | apply pw_below_drewN | apply below_drew1) | exact HB.out)) HL.out) A62.out).mono ?_); rintro e w83 ⟨rfl, hb⟩; have n0_ := Aside0.mk (below_step (by repeat (first | (with_reducible first | exact HB.out | apply below_alloc | apply pw_below_drewN | apply below_drew1) | exact HB.out)) hb); clear HB; have HB := n0_; clear n0_; (try clear hb); (try clear hb2); (try clear hk); (try clear hi)) | (go_at_call 23; (with_reducible refine (num_Op.calls (⟨#[]⟩ : ByteArray) t181 _ (LaidS.below (by repeat (first | (with_reducible first | exact HB.out | apply below_alloc | apply pw_below_drewN | apply below_drew1) | exact HB.out)) HL.out) A64.out).mono ?_); rintro e w84 ⟨rfl, hb⟩; have n0_ := Aside0.mk (below_step (by repeat (first | (with_reducible first | exact HB.out | apply below_alloc | apply pw_below_drewN | apply below_drew1) | exact HB.out)) hb); clear HB; have HB := n0_; clear n0_; (try clear hb); (try clear hb2); (try clear hk); (try clear hi)) | (go_at_call 16; (with_reducible refine (num_Text.calls (-9223372036854775808) t182 _ (LaidS.toLaid (LaidS.below (by repeat (first | (with_reducible first | exact HB.out | apply below_alloc | apply pw_below_drewN | apply below_drew1) | exact HB.out)) HL.out)) A66.out).mono ?_); rintro e w85 ⟨rfl, hb⟩; have n0_ := Aside0.mk (below_step (by repeat (first | (with_reducible first | exact HB.out | apply below_alloc | apply pw_below_drewN | apply below_drew1) | exact HB.out)) hb); clear HB; have HB := n0_; clear n0_; (try clear hb); (try clear hb2); (try clear hk); (try clear hi)))
                                                go_ret
                                                exact ⟨by first | rfl | (simp [errW_none, errW_some] <;> rfl) | (simp [*, errW_none, errW_some] <;> rfl), by repeat (first | (with_reducible first | exact HB.out | apply below_alloc | apply pw_below_drewN | apply below_drew1) | exact HB.out)⟩
                                            · rw [if_neg c65] at H
                                              have c65b0 : (t181 == (-1)) = false := beq_eq_false_iff_ne.mpr c65
                                              have c65b1 : (t181 != (-1)) = true := bne_iff_ne.mpr c65
                                              obtain rfl := Option.some.inj H
                                              go_wp2_with (first | (go_at_call 23; (with_reducible refine (num_Op.calls (⟨#[126]⟩ : ByteArray) t179 _ (LaidS.below (by repeat (first | (with_reducible first | exact HB.out | apply below_alloc | apply pw_below_drewN | apply below_drew1) | exact HB.out)) HL.out) A60.out).mono ?_); rintro e w86 ⟨rfl, hb⟩; have n0_ := Aside0.mk (below_step (by repeat (first | (with_reducible first | exact HB.out | apply below_alloc | apply pw_below_drewN | apply below_drew1) | exact HB.out)) hb); clear HB; have HB := n0_; clear n0_; (try clear hb); (try clear hb2); (try clear hk); (try clear hi)) | (go_at_call 23; (with_reducible refine (num_Op.calls (⟨#[47]⟩ : ByteArray) t180 _ (LaidS.below (by repeat (first | (with_reducible first | exact HB.out | apply below_alloc | apply pw_below_drewN | apply below_drew1) | exact HB.out)) HL.out) A62.out).mono ?_); rintro e w87 ⟨rfl, hb⟩; have n0_ := Aside0.mk (below_step (by repeat (first | (with_reducible first | exact HB.out | apply below_alloc | apply pw_below_drewN | apply below_drew1) | exact HB.out)) hb); clear HB; have HB := n0_; clear n0_; (try clear hb); (try clear hb2); (try clear hk); (try clear hi)) | (go_at_call 23; (with_reducible refine (num_Op.calls (⟨#[]⟩ : ByteArray) t181 _ (LaidS.below (by repeat (first | (with_reducible first | exact HB.out | apply below_alloc | apply pw_below_drewN | apply below_drew1) | exact HB.out)) HL.out) A64.out).mono ?_); rintro e w88 ⟨rfl, hb⟩; have n0_ := Aside0.mk (below_step (by repeat (first | (with_reducible first | exact HB.out | apply below_alloc | apply pw_below_drewN | apply below_drew1) | exact HB.out)) hb); clear HB; have HB := n0_; clear n0_; (try clear hb); (try clear hb2); (try clear hk); (try clear hi)))
                                              go_ret
                                              exact ⟨by first | rfl | (simp [errW_none, errW_some] <;> rfl) | (simp [*, errW_none, errW_some] <;> rfl), by repeat (first | (with_reducible first | exact HB.out | apply below_alloc | apply pw_below_drewN | apply below_drew1) | exact HB.out)⟩
                                          · rw [if_neg c63] at H
                                            have c63b0 : (t180 == (-1)) = false := beq_eq_false_iff_ne.mpr c63
                                            have c63b1 : (t180 != (-1)) = true := bne_iff_ne.mpr c63
                                            obtain rfl := Option.some.inj H
                                            go_wp2_with (first | (go_at_call 23; (with_reducible refine (num_Op.calls (⟨#[126]⟩ : ByteArray) t179 _ (LaidS.below (by repeat (first | (with_reducible first | exact HB.out | apply below_alloc | apply pw_below_drewN | apply below_drew1) | exact HB.out)) HL.out) A60.out).mono ?_); rintro e w89 ⟨rfl, hb⟩; have n0_ := Aside0.mk (below_step (by repeat (first | (with_reducible first | exact HB.out | apply below_alloc | apply pw_below_drewN | apply below_drew1) | exact HB.out)) hb); clear HB; have HB := n0_; clear n0_; (try clear hb); (try clear hb2); (try clear hk); (try clear hi)) | (go_at_call 23; (with_reducible refine (num_Op.calls (⟨#[47]⟩ : ByteArray) t180 _ (LaidS.below (by repeat (first | (with_reducible first | exact HB.out | apply below_alloc | apply pw_below_drewN | apply below_drew1) | exact HB.out)) HL.out) A62.out).mono ?_); rintro e w90 ⟨rfl, hb⟩; have n0_ := Aside0.mk (below_step (by repeat (first | (with_reducible first | exact HB.out | apply below_alloc | apply pw_below_drewN | apply below_drew1) | exact HB.out)) hb); clear HB; have HB := n0_; clear n0_; (try clear hb); (try clear hb2); (try clear hk); (try clear hi)))
                                            go_ret
                                            exact ⟨by first | rfl | (simp [errW_none, errW_some] <;> rfl) | (simp [*, errW_none, errW_some] <;> rfl), by repeat (first | (with_reducible first | exact HB.out | apply below_alloc | apply pw_below_drewN | apply below_drew1) | exact HB.out)⟩
                                        · rw [if_neg c61] at H
                                          have c61b0 : (t179 == 7) = false := beq_eq_false_iff_ne.mpr c61
                                          have c61b1 : (t179 != 7) = true := bne_iff_ne.mpr c61
                                          obtain rfl := Option.some.inj H
                                          go_wp2_with (first | (go_at_call 23; (with_reducible refine (num_Op.calls (⟨#[126]⟩ : ByteArray) t179 _ (LaidS.below (by repeat (first | (with_reducible first | exact HB.out | apply below_alloc | apply pw_below_drewN | apply below_drew1) | exact HB.out)) HL.out) A60.out).mono ?_); rintro e w91 ⟨rfl, hb⟩; have n0_ := Aside0.mk (below_step (by repeat (first | (with_reducible first | exact HB.out | apply below_alloc | apply pw_below_drewN | apply below_drew1) | exact HB.out)) hb); clear HB; have HB := n0_; clear n0_; (try clear hb); (try clear hb2); (try clear hk); (try clear hi)))
                                          go_ret
                                          exact ⟨by first | rfl | (simp [errW_none, errW_some] <;> rfl) | (simp [*, errW_none, errW_some] <;> rfl), by repeat (first | (with_reducible first | exact HB.out | apply below_alloc | apply pw_below_drewN | apply below_drew1) | exact HB.out)⟩
                                      · rw [if_neg c59] at H
                                        have c59b0 : (x20_3.toList == ([32, 43, 32, 45, 32, 42, 32, 47, 47, 32, 37, 32, 38, 32, 124, 32, 126, 32, 60, 60, 32, 62, 62, 32, 32] : List UInt8)) = false := beq_eq_false_iff_ne.mpr c59
                                        have c59b1 : (x20_3.toList != ([32, 43, 32, 45, 32, 42, 32, 47, 47, 32, 37, 32, 38, 32, 124, 32, 126, 32, 60, 60, 32, 62, 62, 32, 32] : List UInt8)) = true := bne_iff_ne.mpr c59
                                        obtain rfl := Option.some.inj H
                                        go_wp2
                                        go_ret
                                        exact ⟨by first | rfl | (simp [errW_none, errW_some] <;> rfl) | (simp [*, errW_none, errW_some] <;> rfl), by repeat (first | (with_reducible first | exact HB.out | apply below_alloc | apply pw_below_drewN | apply below_drew1) | exact HB.out)⟩
                                    · rw [if_neg c58] at H
                                      have c58b0 : (t177 == 8) = false := beq_eq_false_iff_ne.mpr c58
                                      have c58b1 : (t177 != 8) = true := bne_iff_ne.mpr c58
                                      obtain rfl := Option.some.inj H
                                      go_wp2
                                      go_ret
                                      exact ⟨by first | rfl | (simp [errW_none, errW_some] <;> rfl) | (simp [*, errW_none, errW_some] <;> rfl), by repeat (first | (with_reducible first | exact HB.out | apply below_alloc | apply pw_below_drewN | apply below_drew1) | exact HB.out)⟩
                                  · rw [if_neg c57] at H
                                    have c57b0 : (t175 == 2) = false := beq_eq_false_iff_ne.mpr c57
                                    have c57b1 : (t175 != 2) = true := bne_iff_ne.mpr c57
                                    obtain rfl := Option.some.inj H
                                    go_wp2
                                    go_ret
                                    exact ⟨by first | rfl | (simp [errW_none, errW_some] <;> rfl) | (simp [*, errW_none, errW_some] <;> rfl), by repeat (first | (with_reducible first | exact HB.out | apply below_alloc | apply pw_below_drewN | apply below_drew1) | exact HB.out)⟩
                                · rw [if_neg c56] at H
                                  have c56b0 : (t173 == 2) = false := beq_eq_false_iff_ne.mpr c56
                                  have c56b1 : (t173 != 2) = true := bne_iff_ne.mpr c56
                                  obtain rfl := Option.some.inj H
                                  go_wp2
                                  go_ret
                                  exact ⟨by first | rfl | (simp [errW_none, errW_some] <;> rfl) | (simp [*, errW_none, errW_some] <;> rfl), by repeat (first | (with_reducible first | exact HB.out | apply below_alloc | apply pw_below_drewN | apply below_drew1) | exact HB.out)⟩
                              · rw [if_neg c55] at H
                                have c55b0 : (t171 == 0) = false := beq_eq_false_iff_ne.mpr c55
                                have c55b1 : (t171 != 0) = true := bne_iff_ne.mpr c55
                                obtain rfl := Option.some.inj H
                                go_wp2
                                go_ret
                                exact ⟨by first | rfl | (simp [errW_none, errW_some] <;> rfl) | (simp [*, errW_none, errW_some] <;> rfl), by repeat (first | (with_reducible first | exact HB.out | apply below_alloc | apply pw_below_drewN | apply below_drew1) | exact HB.out)⟩
                            · rw [if_neg c54] at H
                              have c54b0 : (t170 == 0) = false := beq_eq_false_iff_ne.mpr c54
                              have c54b1 : (t170 != 0) = true := bne_iff_ne.mpr c54
                              obtain rfl := Option.some.inj H
                              go_wp2
                              go_ret
                              exact ⟨by first | rfl | (simp [errW_none, errW_some] <;> rfl) | (simp [*, errW_none, errW_some] <;> rfl), by repeat (first | (with_reducible first | exact HB.out | apply below_alloc | apply pw_below_drewN | apply below_drew1) | exact HB.out)⟩
                          · rw [if_neg c53] at H
                            have c53b0 : (t169 == 0) = false := beq_eq_false_iff_ne.mpr c53
                            have c53b1 : (t169 != 0) = true := bne_iff_ne.mpr c53
                            obtain rfl := Option.some.inj H
                            go_wp2
                            go_ret
                            exact ⟨by first | rfl | (simp [errW_none, errW_some] <;> rfl) | (simp [*, errW_none, errW_some] <;> rfl), by repeat (first | (with_reducible first | exact HB.out | apply below_alloc | apply pw_below_drewN | apply below_drew1) | exact HB.out)⟩
                        · rw [if_neg c52] at H
                          have c52b0 : (t168 == 9223372036854775807) = false := beq_eq_false_iff_ne.mpr c52
                          have c52b1 : (t168 != 9223372036854775807) = true := bne_iff_ne.mpr c52
                          obtain rfl := Option.some.inj H
                          go_wp2
                          go_ret
                          exact ⟨by first | rfl | (simp [errW_none, errW_some] <;> rfl) | (simp [*, errW_none, errW_some] <;> rfl), by repeat (first | (with_reducible first | exact HB.out | apply below_alloc | apply pw_below_drewN | apply below_drew1) | exact HB.out)⟩
                      · rw [if_neg c51] at H
                        have c51b0 : (t167 == 0) = false := beq_eq_false_iff_ne.mpr c51
                        have c51b1 : (t167 != 0) = true := bne_iff_ne.mpr c51
                        obtain rfl := Option.some.inj H
                        go_wp2
                        go_ret
                        exact ⟨by first | rfl | (simp [errW_none, errW_some] <;> rfl) | (simp [*, errW_none, errW_some] <;> rfl), by repeat (first | (with_reducible first | exact HB.out | apply below_alloc | apply pw_below_drewN | apply below_drew1) | exact HB.out)⟩
                    · rw [if_neg c50] at H
                      have c50b0 : (t166 == (-9223372036854775808)) = false := beq_eq_false_iff_ne.mpr c50
                      have c50b1 : (t166 != (-9223372036854775808)) = true := bne_iff_ne.mpr c50
                      obtain rfl := Option.some.inj H
                      go_wp2
                      go_ret
                      exact ⟨by first | rfl | (simp [errW_none, errW_some] <;> rfl) | (simp [*, errW_none, errW_some] <;> rfl), by repeat (first | (with_reducible first | exact HB.out | apply below_alloc | apply pw_below_drewN | apply below_drew1) | exact HB.out)⟩
end Go.Proofs.YtilmmmpbcgobaaaDoor.G
end
