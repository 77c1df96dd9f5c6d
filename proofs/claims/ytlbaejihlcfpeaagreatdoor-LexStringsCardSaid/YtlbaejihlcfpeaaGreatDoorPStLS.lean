import Derived.LaidMore
import Derived.LaidHandle
import Derived.Stop.Joined
import Derived.Lib.IfaceEq
import Derived.Lib.IndexMore
import Derived.Shelf.Abstract
import Derived.LaidEql
import Derived.Stop.Asserts
import Derived.RowKitTokens
import Derived.Lib.LaidTab
import Derived.Lib.AppendIntMem
import Derived.Stop.LaidErr
import Derived.WalkKit
import Derived.Deep.RegionLaw
import Derived.Deep.Cut
import Derived.WalkSpells
import Derived.Maps.OwnOps
import Derived.Maps.OwnSet
import Derived.Maps.Views
import Derived.Maps.RangeWalk
import Derived.Maps.Own
import Derived.Test.YtlbaejihlcfpeaaGreatDoorPStLI
import Derived.Lib.Hide
set_option linter.unusedVariables false
set_option linter.unusedSimpArgs false
section
namespace Go.Proofs.YtlbaejihlcfpeaaGreatDoor.G
open Go.Proofs.YtlbaejihlcfpeaaGreatDoor.G Go.Proofs.YtlbaejihlcfpeaaGreatDoor.Z Go.Proofs.YtlbaejihlcfpeaaGreatDoor.H
open Go.Shelf Go.Extern.Stop Go.Stop Go.Extern Go.RowKit Go.Proofs.YtlbaejihlcfpeaaGreatDoorW.PrintWords Go.Proofs.YtlbaejihlcfpeaaGreatDoorW.PrintLast Go.Proofs.YtlbaejihlcfpeaaGreatDoorW.PrintMore
set_option linter.unusedVariables false
set_option linter.unusedSimpArgs false
theorem nums_rep (n : Nat) : (strOfNums (List.replicate n (10 : Int))).data.toList = List.replicate n 10 := by
  unfold strOfNums
  simp
def strS (s : ByteArray) (n : Nat) : ByteArray := ((strOfNums (List.replicate n (10 : Int))) ++ (⟨(qtext s).toArray⟩ : ByteArray)) ++ (⟨#[120]⟩ : ByteArray)
theorem strS_data (s : ByteArray) (n : Nat) : (strS s n).data.toList = List.replicate n 10 ++ ((34 :: (qbL s ++ [34])) ++ [120]) := by
  unfold strS
  rw [cat_data, cat_data, nums_rep, qtext_eq, data_mk]
  simp
theorem strS_size (s : ByteArray) (n : Nat) : (strS s n).size ≤ n + (4 * s.size + 2) + 1 := by
  have h := congrArg List.length (strS_data s n)
  rw [size_data] at h
  have h2 := (qtext_len s).1
  rw [← qtext_eq] at h2
  simp only [List.length_append, List.length_replicate, List.length_cons, List.length_nil] at h h2
  omega
theorem lexR_of {s : ByteArray} (hs : s.size ≤ 32768) {x : List Tk × Int × Int} (h : TokR readL unqL s.data.toList 0 [] x) : lexR s = x :=
  TokR.same ⟨_, lexR_tok (by omega)⟩ h
theorem strS_lex (s : ByteArray) (n : Nat) (hs : s.size ≤ 1000) (hn : n ≤ 255) : lexR (strS s n) = ([⟨3, s, 0, n⟩, ⟨1, ⟨#[120]⟩, 0, n⟩, ⟨5, ⟨#[]⟩, 0, n⟩], 0, 0) := by
  refine lexR_of (by have := strS_size s n; omega) ?_
  rw [strS_data]
  refine TokR.lines n 0 ?_
  rw [Int.zero_add]
  refine TokR.str quotesOk (by omega) ?_
  have h120 : wordW readL unqL [120] = ⟨0, 1, ⟨#[120]⟩, 0, 1⟩ := rfl
  refine TokR.word (by decide) (fun h => absurd h.1 (by decide)) (by rw [h120]) ?_
  rw [h120]
  exact TokR.end_ _ _
theorem quote_any (s : ByteArray) (hs : s.size ≤ 100000) (w : World) : Calls Tryz.prog 14 #[.string s] w fun e w' => e = .returned (.string ⟨(qtext s).toArray⟩) ∧ Below w.heap.size w w' := Quote_any s (by omega) w
theorem fault0 {w w' : World} {ev : Value} {a : Int} (h : FaultV w w' ev 0 a) : ev = .nilIface := by
  rcases h with ⟨_, h⟩ | ⟨h, _⟩
  · exact h
  · exact absurd rfl h
theorem cells_at {w : World} {g : Nat} {xs : List S41} (h : Kd.C k41 w (some ⟨g, 0, none⟩) xs.length xs) (i b : Nat) (x : S41) (hx : xs[i]? = some x) (hb : b = i * 4) :
    w.cell? ⟨g, b, none⟩ = some (.int .i64 x.f0) ∧ w.cell? ⟨g, b + 1, none⟩ = some (.string x.f1) ∧ w.cell? ⟨g, b + 2, none⟩ = some (.int .i64 x.f2) ∧ w.cell? ⟨g, b + 3, none⟩ = some (.int .i64 x.f3) := by
  subst hb
  obtain ⟨hl, he⟩ := List.getElem?_eq_some_iff.mp hx
  obtain ⟨ad, e, c0, c1, c2, c3⟩ := at_T41 h (i : Int) (by omega) (by omega)
  obtain rfl : (⟨g, 0, none⟩ : Addr) = ad := Option.some.inj e
  have hr : rd_T41 xs (i : Int) = x := by
    unfold rd_T41
    simp [hx]
  rw [hr, Int.toNat_natCast, add_at, Nat.zero_add] at c0 c1 c2 c3
  exact ⟨c0, c1, c2, c3⟩
attribute [local go_sem] min2_int min_two
attribute [local go_sem high] eqA41
set_option maxHeartbeats 8000000 in
set_option maxRecDepth 100000 in
theorem strings_any (s : ByteArray) (a1 : Int) (w : World) (hL : Laid w) (hs : s.size ≤ 140737488351232) (h1 : 0 ≤ a1 ∧ a1 < 256) : Calls Tryz.prog 5 #[.string s, .int .u8 a1] w fun e w' => e = .returned (.bool true) ∧ Below w.heap.size w w' := by
  have HL := Aside0.mk hL
  obtain ⟨n, rfl⟩ := Int.eq_ofNat_of_zero_le h1.1
  have HN := Aside0.mk (show n ≤ 255 by omega)
  clear h1 hL
  go_enter Tryz.func5, Tryz.ntmps5
  go_wp2_with fail
  refine (works_any w HL.out).mono ?_
  rintro e w1 ⟨rfl, hb⟩
  have HB := Aside0.mk hb
  clear hb
  go_upto_region 4 with (fail)
  obtain ⟨q, hq⟩ : ∃ q, q = s.extract 0 (if (1000 : Int) < (s.size : Int) then (1000 : Int) else (s.size : Int)).toNat := ⟨_, rfl⟩
  have HQ := Aside0.mk (show q.size ≤ 1000 from by
    rw [hq, ByteArray.size_extract]
    split <;> omega)
  rw [← hq]
  clear hq hs
  generalize (if (1000 : Int) < (s.size : Int) then (1000 : Int) else (s.size : Int)) = mm
  have HTK := Aside0.mk (fun w hL => tok_at (strS q n) [⟨3, q, 0, n⟩, ⟨1, ⟨#[120]⟩, 0, n⟩, ⟨5, ⟨#[]⟩, 0, n⟩] 0 0 (strS_lex q n HQ.out HN.out) w hL (by have := strS_size q n; have := HQ.out; have := HN.out; omega))
  have HQT := Aside0.mk (quote_any q (by have := HQ.out; omega))
  have hcs : ∀ (A : Option Addr) (cc : Nat) (W : World), Kd.R (Kd.int .u8) 5 W w.heap.size (fun _ => True) (.slice A n cc) (List.replicate n 10) → (convert 36 9 (.slice A n cc)).run Tryz.prog W = .ok (.string (strOfNums (List.replicate n 10))) W := fun A cc W h => by
    have hc := (Kd.R_reads' h).2.2
    rw [List.length_replicate] at hc
    exact Kd.C_string Tryz.underlying36 Tryz.underlying5 Tryz.underlying9 hc
  have HCS := Aside0.mk hcs
  clear hcs
  have hsz1 : ¬ 9223372036854775807 < (strOfNums (List.replicate n (10 : Int))).size + (⟨(qtext q).toArray⟩ : ByteArray).size := by
    have := strS_size q n
    unfold strS at this
    rw [ByteArray.size_append, ByteArray.size_append] at this
    have := HQ.out
    have := HN.out
    omega
  have hsz2 : ¬ 9223372036854775807 < (strOfNums (List.replicate n (10 : Int))).size + (⟨(qtext q).toArray⟩ : ByteArray).size + 1 := by
    have := strS_size q n
    unfold strS at this
    rw [ByteArray.size_append, ByteArray.size_append] at this
    have := HQ.out
    have := HN.out
    omega
  unfold strS at HTK
  generalize strOfNums (List.replicate n (10 : Int)) = LN at HTK HCS hsz1 hsz2
  generalize (⟨(qtext q).toArray⟩ : ByteArray) = QT at HTK HQT hsz1 hsz2
  go_region_with (first
    | (go_at_call 13; refine (lines_any n HN.out _).mono ?_; rintro e w2 ⟨v, rfl, hR, hb⟩; obtain ⟨A, cc, ev⟩ := Kd.R_slice hR; rw [List.length_replicate] at ev; subst ev; have HR2 := Aside0.mk (Kd.R_lower hR (show w.heap.size ≤ _ from (below_drew HB.out).size)); have HB2 := Aside0.mk (below_step (below_drew HB.out) hb); clear hR hb; have hc2 := HCS.out A cc w2 HR2.out)
    | (go_at_call 14; refine (HQT.out _).mono ?_; rintro e w3 ⟨rfl, hb⟩; have HR3 := Aside0.mk (Kd.R_below HR2.out hb); have HB3 := Aside0.mk (below_step HB2.out hb); clear hb; have hc3 := HCS.out A cc w3 HR3.out)
    | (go_at_call 7; refine (HTK.out _ (Laid.below HB3.out HL.out)).mono ?_; rintro e w4 ⟨v, ev, rfl, hR, hF, hb⟩; obtain rfl := fault0 hF; obtain ⟨g, cap, rfl, _, _, _⟩ := Kd.R_form hR (Nat.succ_pos _); have hC := (Kd.R_reads' hR).2.2; have HX := Aside0.mk (cells_at hC 0 0 _ rfl rfl); have HY := Aside0.mk (cells_at hC 1 4 _ rfl rfl); have HB4 := Aside0.mk (below_step HB3.out hb); clear hR hF hb hC))
  all_goals
    have y0 : w4.cell? ⟨g, 0, none⟩ = some (.int .i64 3) := HX.out.1
    have y1 : w4.cell? ⟨g, 1, none⟩ = some (.string q) := HX.out.2.1
    have y2 : w4.cell? ⟨g, 2, none⟩ = some (.int .i64 0) := HX.out.2.2.1
    have y3 : w4.cell? ⟨g, 3, none⟩ = some (.int .i64 n) := HX.out.2.2.2
    have y4 : w4.cell? ⟨g, 4, none⟩ = some (.int .i64 1) := HY.out.1
    clear HX HY
    clear hc2 hc3 hsz1 hsz2 HTK HQT HCS HR2 HR3
    have hwn : wrap64 (n : Int) = n := IntWalk.wrap64_in _ ⟨by omega, by have := HN.out; omega⟩
    have hwn2 : IntKind.i64.wrap (n : Int) = n := by rw [IntKind.wrap_i64]; have := HN.out; omega
    go_simp
    go_wp2_with fail
    go_ret
    exact ⟨rfl, HB4.out⟩
end Go.Proofs.YtlbaejihlcfpeaaGreatDoor.G
end
