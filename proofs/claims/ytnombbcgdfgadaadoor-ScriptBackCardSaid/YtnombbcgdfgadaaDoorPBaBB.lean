import Derived.LaidMore
import Derived.LaidHandle
import Derived.Stop.Joined
import Derived.Lib.IfaceEq
import Derived.Lib.ItoaLen
import Derived.Shelf.Strings.MapGrows
import Derived.Shelf.Abstract
import Derived.LaidEql
import Derived.Stop.Asserts
import Derived.RowKitTokens
import Derived.Lib.LaidTab
import Derived.Lib.AppendIntMem
import Derived.Stop.LaidErr
import Derived.WalkKit
import Derived.Deep.RegionLaw
import Derived.Deep.Cut
import Derived.WalkSpells
import Derived.Test.YtnombbcgdfgadaaDoorPBaBK
import Derived.Lib.Hide
set_option linter.unusedVariables false
set_option linter.unusedSimpArgs false
section
namespace Go.Proofs.YtnombbcgdfgadaaDoor.G
open Go.Shelf Go.Extern.Stop Go.Stop Go.Extern Go.RowKit Go.Proofs.YtnombbcgdfgadaaDoorW.PrintWords Go.Proofs.YtnombbcgdfgadaaDoorW.PrintLast Go.Proofs.YtnombbcgdfgadaaDoorW.PrintMore
set_option linter.unusedVariables false
set_option linter.unusedSimpArgs false
theorem indexByte_at : ∀ (l : List UInt8), 0 ≤ Lib.indexByte l 10 → l = l.take (Lib.indexByte l 10).toNat ++ 10 :: l.drop (Lib.indexByte l 10 + 1).toNat
  | [], h => by revert h; decide
  | x :: r, h => by
    have ih := indexByte_at r
    have hlt := indexByte_lt r 10
    unfold Lib.indexByte at h ⊢
    cases hx : (x == 10)
    · rw [hx, if_neg Bool.false_ne_true] at h
      rw [if_neg Bool.false_ne_true]
      cases hr : (Lib.indexByte r 10 == -1)
      · rw [hr, if_neg Bool.false_ne_true] at h
        rw [if_neg Bool.false_ne_true]
        have hn : ¬ Lib.indexByte r 10 = -1 := by simpa using hr
        generalize Lib.indexByte r 10 = i at *
        obtain ⟨n, rfl⟩ : ∃ n : Nat, i = n := ⟨i.toNat, by omega⟩
        rw [show ((n : Int) + 1).toNat = n + 1 by omega, show ((n : Int) + 1 + 1).toNat = (n + 1) + 1 by omega, List.take_succ_cons, List.drop_succ_cons, List.cons_append]
        have := ih (by omega)
        rw [show ((n : Int) + 1).toNat = n + 1 by omega, Int.toNat_natCast] at this
        rw [← this]
      · rw [hr, if_pos rfl] at h
        exact absurd h (by decide)
    · rw [if_pos rfl]
      have : x = 10 := eq_of_beq hx
      rw [this]; rfl
theorem cut_back {t l r : ByteArray} (h : cutF t = (l, r, true)) : t.data.toList = l.data.toList ++ 10 :: r.data.toList := by
  unfold cutF at h
  have hl := cut_lt t
  split at h
  · rename_i h0
    simp only [Prod.mk.injEq, and_true] at h
    obtain ⟨rfl, rfl⟩ := h
    have := indexByte_at t.data.toList h0
    rw [show (t.extract 0 (Lib.indexByte t.data.toList 10).toNat).data.toList = t.data.toList.take (Lib.indexByte t.data.toList 10).toNat from ?_, ext_drop]
    · exact this
    · rw [ByteArray.data_extract, Array.toList_extract, List.extract_eq_take_drop, List.drop_zero, Nat.sub_zero]
  · cases h
theorem thr_no {x a n : Int} (h : ((0 : Int), (0 : Int), x) = (a, n, 0)) (hx : x ≠ 0) : False := hx (congrArg (·.2.2) h)
theorem end_back {k a n : Int} {d : List UInt8} (h : endR k d = (a, n, 0)) : a = k ∧ 0 ≤ n ∧ n ≤ 2147483647 ∧ Lib.itoa n = d := by
  unfold endR at h
  split at h
  · exact (thr_no h (by decide)).elim
  · split at h
    · exact (thr_no h (by decide)).elim
    · rename_i h45
      split at h
      · rename_i h2
        split at h
        · exact (thr_no h (by decide)).elim
        · rename_i h7
          simp only [Prod.mk.injEq, and_true] at h
          obtain ⟨rfl, rfl⟩ := h
          have hb := read_back (l := d) (w := (readL d).1) (by rw [← h2])
          refine ⟨rfl, ?_, by omega, hb.1⟩
          refine Int.not_lt.mp fun hlt => h45 ?_
          rw [← hb.1]
          unfold Lib.itoa
          rw [if_pos hlt]
          rfl
      · exact (thr_no h (by decide)).elim
theorem after_back {l p d : List UInt8} (h : afterB l p = some d) : l = p ++ 32 :: d := by
  unfold afterB at h
  split at h
  · rename_i hp
    rw [List.isPrefixOf_iff_prefix] at hp
    obtain ⟨q, rfl⟩ := hp
    rw [List.drop_left] at h
    cases q with
    | nil => cases h
    | cons x y =>
      by_cases hx : x = 32
      · subst hx
        rw [Option.some.inj h]
      · split at h
        · rename_i hq
          exact absurd (List.cons.inj hq).1 hx
        · cases h
  · cases h
theorem ref_back (l : List UInt8) {a n : Int} : ∀ (r k : Nat), r + k = 5 → refS l r k = (a, n, 0) → okD ⟨a, n⟩ = true ∧ l = ln ⟨a, n⟩
  | 0, k, _, h => (thr_no h (by decide)).elim
  | r + 1, k, hk, h => by
    unfold refS at h
    split at h
    · rename_i h3
      split at h
      · rename_i he
        simp only [Prod.mk.injEq, and_true] at h
        obtain ⟨rfl, rfl⟩ := h
        refine ⟨by decide, ?_⟩
        rw [he]
        unfold ln
        rw [if_pos rfl, List.append_nil]
        rfl
      · exact ref_back l r 4 (by omega) h
    · rename_i h3
      split at h
      · rename_i d hd
        obtain ⟨rfl, h0, h1, h2⟩ := end_back h
        refine ⟨(okD_iff _).mpr ⟨by show (0 : Int) ≤ k; omega, by show (k : Int) < 5; omega, h0, h1, fun e => absurd e (by show ¬ (k : Int) = 3; omega)⟩, ?_⟩
        rw [after_back hd]
        unfold ln
        rw [if_neg (by show ¬ (k : Int) = 3; omega)]
        show _ = _ ++ 32 :: Lib.itoa n
        rw [h2]
        rfl
      · exact ref_back l r (k + 1) (by omega) h
theorem run_fault : ∀ (m : Nat) (a : Int) (xs : List S44) (t u : ByteArray) (zs : List S44) (c af : Int), runF m a xs t = some (u, zs, c, af) → c ≠ 0 → u = ⟨#[]⟩ ∧ zs = []
  | 0, _, _, _, _, _, _, _, h, _ => by simp [runF] at h
  | m + 1, a, xs, t, u, zs, c, af, h, hc => by
    unfold runF at h
    split at h
    · split at h
      · simp only [Option.some.injEq, Prod.mk.injEq] at h
        exact ⟨h.1.symm, h.2.1.symm⟩
      · simp only [Option.some.injEq, Prod.mk.injEq] at h
        exact absurd h.2.2.1.symm hc
    · split at h
      · simp only [Option.some.injEq, Prod.mk.injEq] at h
        exact ⟨h.1.symm, h.2.1.symm⟩
      · split at h
        · simp only [Option.some.injEq, Prod.mk.injEq] at h
          exact ⟨h.1.symm, h.2.1.symm⟩
        · split at h
          · simp only [Option.some.injEq, Prod.mk.injEq] at h
            exact ⟨h.1.symm, h.2.1.symm⟩
          · exact run_fault m _ _ _ u zs c af h hc
theorem run_back : ∀ (m : Nat) (a : Int) (xs : List S44) (t u : ByteArray) (zs : List S44) (af : Int), runF m a xs t = some (u, zs, 0, af) → xs.all okD = true →
    ∃ ys : List S44, zs = xs ++ ys ∧ ys.all okD = true ∧ t.data.toList = ys.flatMap lineB ++ ([115, 111, 117, 114, 99, 101] ++ 10 :: u.data.toList)
  | 0, _, _, _, _, _, _, h, _ => by simp [runF] at h
  | m + 1, a, xs, t, u, zs, af, h, hx => by
    unfold runF at h
    obtain ⟨l, r, b⟩ : ByteArray × ByteArray × Bool := cutF t
    cases hcut : cutF t with
    | mk l rb =>
    obtain ⟨r, b⟩ := rb
    rw [hcut] at h
    dsimp only at h
    split at h
    · rename_i hsr
      split at h
      · simp only [Option.some.injEq, Prod.mk.injEq] at h
        exact absurd h.2.2.1 (by decide)
      · simp only [Option.some.injEq, Prod.mk.injEq] at h
        obtain ⟨rfl, rfl, _⟩ := h
        refine ⟨[], (List.append_nil _).symm, rfl, ?_⟩
        have := cut_back (hsr.1 ▸ hcut)
        rw [this, List.flatMap_nil, List.nil_append]
        have he := hsr.2
        rw [toList_data, toList_data] at he
        rw [he]
        rfl
    · split at h
      · rename_i hne
        simp only [Option.some.injEq, Prod.mk.injEq] at h
        exact absurd h.2.2.1 hne
      · rename_i hst
        split at h
        · simp only [Option.some.injEq, Prod.mk.injEq] at h
          exact absurd h.2.2.1 (by decide)
        · split at h
          · simp only [Option.some.injEq, Prod.mk.injEq] at h
            exact absurd h.2.2.1 (by decide)
          · rename_i hb
            have hbt : b = true := by cases b with | false => exact absurd rfl hb | true => rfl
            subst hbt
            have hst0 : (stepF l 5 0).2.2 = 0 := Classical.byContradiction hst
            have hse : refS l.data.toList 5 0 = ((stepF l 5 0).1, (stepF l 5 0).2.1, 0) := by rw [← step_eq l 5 0 rfl, ← hst0]
            obtain ⟨ho, hl⟩ := ref_back _ 5 0 rfl hse
            obtain ⟨ys, rfl, hy, ht⟩ := run_back m _ _ _ u zs af h (by rw [List.all_append, hx, List.all_cons, ho]; rfl)
            refine ⟨⟨(stepF l 5 0).1, (stepF l 5 0).2.1⟩ :: ys, by simp, by rw [List.all_cons, ho, hy]; rfl, ?_⟩
            rw [cut_back hcut, hl, ht, List.flatMap_cons, lineB_ln]
            simp
theorem print_back {m : Nat} {text u : ByteArray} {zs : List S44} {af : Int} (h : script_Parse.f m text = some (u, zs, 0, af)) : printF u zs = (text, 0) := by
  obtain ⟨hz, hu⟩ := parse_len h
  unfold script_Parse.f at h
  split at h
  case isFalse => cases h
  obtain ⟨ys, rfl, hy, ht⟩ := run_back m 0 [] text u zs af h rfl
  unfold printF
  rw [if_pos hy, if_neg (by omega), if_neg (by omega)]
  refine Prod.ext (ba_ext ?_) rfl
  rw [ht]
  simp
theorem parse_fault {m : Nat} {text u : ByteArray} {zs : List S44} {c af : Int} (h : script_Parse.f m text = some (u, zs, c, af)) (hc : c ≠ 0) : u = ⟨#[]⟩ ∧ zs = [] := by
  unfold script_Parse.f at h
  split at h
  · exact run_fault m _ _ _ u zs c af h hc
  · cases h
theorem two_no {b t : ByteArray} {x : Int} (h : (b, x) = (t, (0 : Int))) (hx : x ≠ 0) : False := hx (congrArg (·.2) h)
theorem parse_print {T text : ByteArray} {xs : List S44} (h : printF T xs = (text, 0)) : script_Parse.f 4097 text = some (T, xs, 0, 0) ∧ text.size ≤ 200000 := by
  unfold printF at h
  split at h
  case isFalse => exact (two_no h (by decide)).elim
  rename_i hall
  split at h
  · exact (two_no h (by decide)).elim
  split at h
  · exact (two_no h (by decide)).elim
  rename_i hn hT
  have ht : text.data.toList = xs.flatMap lineB ++ ([115, 111, 117, 114, 99, 101] ++ 10 :: T.data.toList) := by
    rw [← (Prod.mk.inj h).1]
    simp
  have hsz : text.size ≤ 200000 := by
    have := lines_len xs hall
    rw [size_list, ht, List.length_append, List.length_append, List.length_cons (a := 10), ← size_list]
    simp only [List.length_cons, List.length_nil]
    omega
  refine ⟨?_, hsz⟩
  unfold script_Parse.f
  rw [if_pos (by omega)]
  have hr := run_print T (by omega) xs (4096 - xs.length) 0 [] text ht hall (by simp; omega)
  rw [show 4096 - xs.length + xs.length + 1 = 4097 by omega] at hr
  exact hr
end Go.Proofs.YtnombbcgdfgadaaDoor.G
end
