import Derived.LaidMore
import Derived.LaidHandle
import Derived.Stop.Joined
import Derived.Lib.IfaceEq
import Derived.Lib.IndexMore
import Derived.Shelf.Abstract
import Derived.LaidEql
import Derived.Stop.Asserts
import Derived.RowKitTokens
import Derived.Lib.LaidTab
import Derived.Lib.AppendIntMem
import Derived.Stop.LaidErr
import Derived.WalkKit
import Derived.Deep.RegionLaw
import Derived.Deep.Cut
import Derived.WalkSpells
import Derived.Maps.OwnOps
import Derived.Maps.OwnSet
import Derived.Maps.Views
import Derived.Maps.RangeWalk
import Derived.Maps.Own
import Derived.Shelf.Strings.BuilderK
import Derived.Shelf.Strings.BuilderX
import Derived.Test.YtlbaejihlcfpeaaDoorPNmQ3
import Derived.Lib.Hide
set_option linter.unusedVariables false
set_option linter.unusedSimpArgs false
section
namespace Go.Proofs.YtlbaejihlcfpeaaDoor.H
open Go.Shelf Go.Extern.Stop Go.Stop Go.Extern Go.RowKit Go.Proofs.YtlbaejihlcfpeaaDoorW.PrintWords Go.Proofs.YtlbaejihlcfpeaaDoorW.PrintLast Go.Proofs.YtlbaejihlcfpeaaDoorW.PrintMore
set_option linter.unusedVariables false
set_option linter.unusedSimpArgs false
theorem info5 : (Tryd.prog.info? 5).map (fun i => (i.zero, i.size, i.bytes)) = some (some (.int .u8 0), 1, 1) := by kernel_rfl
def digitD (c : Int) : Int := if 48 ≤ c ∧ c ≤ 57 then c - 48 else if 97 ≤ c ∧ c ≤ 102 then c - 97 + 10 else -1
theorem digit_any (c : Int) (h0 : 0 ≤ c) (h1 : c ≤ 255) (w : World) : Calls Tryd.prog 47 #[.int .i32 c] w fun e w' => e = .returned (.int .i64 (digitD c)) ∧ Drawn0 w w' := by
  go_enter Tryd.func47, Tryd.ntmps47
  by_cases a1 : 48 ≤ c <;> by_cases a2 : c ≤ 57 <;> by_cases a3 : 97 ≤ c <;> by_cases a4 : c ≤ 102 <;>
    (first
      | (have hd : digitD c = c - 48 := if_pos ⟨a1, a2⟩; rw [hd]; go_wp2; go_ret; exact ⟨rfl, Drawn0.refl _⟩)
      | (have hd : digitD c = c - 97 + 10 := (if_neg (fun h => by omega)).trans (if_pos ⟨a3, a4⟩); rw [hd]; go_wp2; go_ret; exact ⟨rfl, Drawn0.refl _⟩)
      | (have hd : digitD c = -1 := (if_neg (fun h => by omega)).trans (if_neg (fun h => by omega)); rw [hd]; go_wp2; go_ret; exact ⟨rfl, Drawn0.refl _⟩)
      | (exfalso; omega))
def ustep (u : ByteArray) : Option (Int × Int) :=
  if bt u 0 < 32 ∨ bt u 0 > 126 ∨ bt u 0 = 34 ∨ (bt u 0 = 92 ∧ u.size < 2) then none
  else if bt u 0 = 92 then
    (if bt u 1 = 120 then
      (if u.size < 4 ∨ digitD (bt u 2) < 0 ∨ digitD (bt u 3) < 0 then none else some (digitD (bt u 2) * 16 + digitD (bt u 3), 4))
    else (longOf (bt u 1)).map fun c => (c, 2))
  else some (bt u 0, 1)
def unq : Nat → ByteArray → List Int → Option (ByteArray × Int)
  | 0, _, _ => none
  | k + 1, u, acc => if u.size = 0 then (if acc.length > 4096 then some (⟨#[]⟩, 3) else some (strOfNums acc, 0)) else
      match ustep u with
      | none => some (⟨#[]⟩, 4)
      | some (c, n) => if acc.length < 140737488355328 then unq k (u.extract n.toNat u.size) (acc ++ [c]) else none
def unquote.f (k : Nat) (q : ByteArray) : Option (ByteArray × Int) :=
  if Lib.hasPrefix q.data.toList [34] = true ∧ Lib.hasSuffix (Lib.trimPrefix q.data.toList [34]) [34] = true then
    unq k ⟨(Lib.trimSuffix (Lib.trimPrefix q.data.toList [34]) [34]).toArray⟩ [] else some (⟨#[]⟩, 4)
theorem cutP (a0 : ByteArray) (w : World) : Calls Tryd.prog 44 #[.string a0, .string ⟨#[34]⟩] w fun e w' => e = .returned (.tuple #[.string ⟨(Lib.trimPrefix a0.data.toList [34]).toArray⟩, .bool (Lib.hasPrefix a0.data.toList [34])]) ∧ w' = w := Tryd.strings_CutPrefix a0 ⟨#[34]⟩ w
theorem cutS (T : List UInt8) (hT : T.length ≤ 9223372036854775807) (w : World) : Calls Tryd.prog 45 #[.string ⟨T.toArray⟩, .string ⟨#[34]⟩] w fun e w' => e = .returned (.tuple #[.string ⟨(Lib.trimSuffix T [34]).toArray⟩, .bool (Lib.hasSuffix T [34])]) ∧ w' = w := Tryd.strings_CutSuffix ⟨T.toArray⟩ ⟨#[34]⟩ w (by simpa [ByteArray.size] using hT)
theorem digitD_lt (c : Int) : digitD c < 16 := by
  unfold digitD
  split
  · omega
  · split <;> omega
theorem hexor (a b : Int) (h0 : 0 ≤ a) (h1 : a < 16) (h2 : 0 ≤ b) (h3 : b < 16) : bits BinOp.or IntKind.i64 (wrap64 (a * 16)) b % 256 = a * 16 + b := by
  have : ∀ i j : Fin 16, bits BinOp.or IntKind.i64 (wrap64 ((i.val : Int) * 16)) (j.val : Int) % 256 = (i.val : Int) * 16 + (j.val : Int) := by decide +kernel
  obtain ⟨i, rfl⟩ := Int.eq_ofNat_of_zero_le h0
  obtain ⟨j, rfl⟩ := Int.eq_ofNat_of_zero_le h2
  exact this ⟨i, by omega⟩ ⟨j, by omega⟩
theorem wf_u8b {x : Int} (h : 0 ≤ x ∧ x ≤ 255) : (Lit.int .u8 x).wf = true := by
  have e0 : IntKind.u8.min = 0 := by decide
  have e1 : IntKind.u8.max = 255 := by decide
  simp [Lit.wf, e0, e1]
  omega
theorem wp_scope_jumps2 {P : Program} {a : Act} {w : World} {Q : Exit → Act → World → Prop} {c rest : Code} (l : Nat) (J : Act → World → Prop) (μ : Act → World → Nat) (hf : findLabel c l = some (Code.skip.seq rest))
    (pass : ∀ a w, J a w → rest.wp P (Exit.jump l (fun a' w' => J a' w' ∧ μ a' w' < μ a w) Q) a w)
    (first : (∀ a w, J a w → rest.wp P (Exit.jump l J Q) a w) → c.wp P (Exit.jump l J Q) a w) : (Code.scope c).wp P Q a w := by
  refine wp_scope_jumps l J μ hf (first fun a w h b k cs => ?_) (fun a w h => wp_seq (wp_skip (pass a w h)))
  obtain ⟨e, a', w', hq, harr⟩ := pass a w h b k cs
  refine ⟨e, a', w', ?_, harr⟩
  cases e <;> first | exact hq | exact ⟨hq.1, hq.2.1⟩
def strSize : Value → Nat | .string s => s.size | _ => 0
structure USt (wn : World) (nb : Nat) (u : ByteArray) (acc : List Int) (v8 : Value) (kq : Nat) (r1 : ByteArray) (r2 : Int) (wl : World) : Prop where
  go : unq kq u acc = some (r1, r2)
  row : Kd.R (Kd.int .u8) 5 wl wn.heap.size (fun _ => True) v8 acc
  below : Below wn.heap.size wn wl
theorem frame112 (a : Act) (hd : a.defers = []) (hs : a.tmps.size = 112) : ∃ x : Nat → Value, (∀ n, x n = a.tmps.getD n undef) ∧ a = { tmps := #[x 0, x 1, x 2, x 3, x 4, x 5, x 6, x 7, x 8, x 9, x 10, x 11, x 12, x 13, x 14, x 15, x 16, x 17, x 18, x 19, x 20, x 21, x 22, x 23, x 24, x 25, x 26, x 27, x 28, x 29, x 30, x 31, x 32, x 33, x 34, x 35, x 36, x 37, x 38, x 39, x 40, x 41, x 42, x 43, x 44, x 45, x 46, x 47, x 48, x 49, x 50, x 51, x 52, x 53, x 54, x 55, x 56, x 57, x 58, x 59, x 60, x 61, x 62, x 63, x 64, x 65, x 66, x 67, x 68, x 69, x 70, x 71, x 72, x 73, x 74, x 75, x 76, x 77, x 78, x 79, x 80, x 81, x 82, x 83, x 84, x 85, x 86, x 87, x 88, x 89, x 90, x 91, x 92, x 93, x 94, x 95, x 96, x 97, x 98, x 99, x 100, x 101, x 102, x 103, x 104, x 105, x 106, x 107, x 108, x 109, x 110, x 111], defers := [] } := by
  obtain ⟨t, d⟩ := a
  dsimp only at hd hs ⊢
  subst hd
  refine ⟨fun n => t.getD n undef, fun _ => rfl, ?_⟩
  generalize hx : (fun n => t.getD n undef) = x
  have key : t = ((List.range 112).map x).toArray := by
    apply Array.ext
    · simp [hs]
    · intro i h1 h2
      subst hx
      simp [Array.getD, h1]
  rw [key]
  rfl
set_option maxHeartbeats 4000000 in
set_option maxRecDepth 100000 in
theorem unquote.calls (k : Nat) (a0 : ByteArray) (hq : a0.size ≤ 9223372036854775807) (r1 : ByteArray) (r2 : Int) (w : World) (h : unquote.f k a0 = some (r1, r2)) :
    Calls Tryd.prog 34 #[.string a0] w fun e w' => e = .returned (.tuple #[.string r1, .int .i64 r2]) ∧ Below w.heap.size w w' := by
  have htl : (Lib.trimPrefix a0.data.toList [34]).length ≤ 9223372036854775807 := by
    have e : a0.data.toList.length = a0.size := Array.length_toList
    unfold Lib.trimPrefix
    split
    · rw [List.length_drop]; omega
    · omega
  have HH := Aside0.mk h
  clear h
  go_enter Tryd.func34, Tryd.ntmps34
  go_wp2_with fail
  by_cases hps : Lib.hasPrefix a0.data.toList [34] = true ∧ Lib.hasSuffix (Lib.trimPrefix a0.data.toList [34]) [34] = true
  · have HH' : unq k ⟨(Lib.trimSuffix (Lib.trimPrefix a0.data.toList [34]) [34]).toArray⟩ [] = some (r1, r2) := by have := HH.out; unfold unquote.f at this; rw [if_pos hps] at this; exact this
    clear HH
    have HH := Aside0.mk HH'
    clear HH'
    obtain ⟨hp, hs⟩ := hps
    refine wp_scope_jumps2 0 (fun a' w' => a'.defers = [] ∧ a'.tmps.size = 112 ∧ a'.tmps.getD 0 undef = .string a0 ∧ a'.tmps.getD 1 undef = undef ∧ a'.tmps.getD 2 undef = .string ⟨#[]⟩ ∧ a'.tmps.getD 3 undef = .int .i64 0 ∧ a'.tmps.getD 7 undef = .map (some w.heap.size) ∧ ∃ (u : ByteArray) (acc : List Int) (v8 : Value) (kq : Nat) (wn : World), a'.tmps.getD 4 undef = .string u ∧ a'.tmps.getD 8 undef = v8 ∧ Own wn w.heap.size 4 namedD ∧ Below w.heap.size w wn ∧ USt wn w.heap.size u acc v8 kq r1 r2 w') (fun a' _ => strSize (a'.tmps.getD 4 undef)) rfl ?_ ?_
    · rintro a' wl ⟨hdf, hsz, e0, e1, e2, e3, e7, u, acc, v8, kq, wn, e4, e8, on, bn, hst⟩
      obtain ⟨x, hx, rfl⟩ := frame112 a' hdf hsz
      rw [show x 0 = .string a0 from (hx 0).trans e0, show x 1 = undef from (hx 1).trans e1, show x 2 = .string ⟨#[]⟩ from (hx 2).trans e2, show x 3 = .int .i64 0 from (hx 3).trans e3, show x 4 = .string u from (hx 4).trans e4, show x 7 = .map (some w.heap.size) from (hx 7).trans e7, show x 8 = v8 from (hx 8).trans e8]
      clear hx hdf hsz e0 e1 e2 e3 e7 e4 e8
      obtain ⟨hgo, hrow, hbel⟩ := hst
      cases kq with
      | zero => cases hgo
      | succ kq =>
        have H : (if u.size = 0 then (if acc.length > 4096 then some ((⟨#[]⟩ : ByteArray), (3 : Int)) else some (strOfNums acc, 0)) else match ustep u with
          | none => some (⟨#[]⟩, 4)
          | some (c, n) => if acc.length < 140737488355328 then unq kq (u.extract n.toNat u.size) (acc ++ [c]) else none) = some (r1, r2) := hgo
        clear hgo
        have HH := Aside0.mk H
        clear H
        have HROW := Aside0.mk hrow
        have HBEL := Aside0.mk hbel
        have HON := Aside0.mk (Own.kept_below on hbel on.lt)
        have HBN := Aside0.mk bn
        have hwl := hbel.size
        clear hrow hbel bn
        by_cases hu : u.size = 0
        · have hue : u = ⟨#[]⟩ := by
            obtain ⟨d⟩ := u
            have : d.size = 0 := hu
            rw [Array.size_eq_zero_iff] at this
            rw [this]
          have H := HH.out
          rw [if_pos hu] at H
          subst hue
          obtain ⟨A, cp, rfl⟩ := Kd.R_slice HROW.out
          by_cases hl : acc.length > 4096
          · rw [if_pos hl] at H
            obtain ⟨rfl, rfl⟩ := Prod.mk.inj (Option.some.inj H)
            clear H HH
            go_wp2_with fail
            (try simp only [Exit.jump])
            go_ret2
            exact ⟨rfl, HBN.out.trans (HBEL.out.mono (Nat.le_of_lt on.lt))⟩
          · rw [if_neg hl] at H
            obtain ⟨rfl, rfl⟩ := Prod.mk.inj (Option.some.inj H)
            clear H HH
            have hcv := own_string (P := Tryd.prog) Tryd.underlying94 Tryd.underlying5 Tryd.underlying9 (Kd.own_of_R HROW.out)
            go_wp2_with fail
            (try simp only [Exit.jump])
            go_ret2
            exact ⟨rfl, HBN.out.trans (HBEL.out.mono (Nat.le_of_lt on.lt))⟩
        · have H := HH.out
          rw [if_neg hu] at H
          clear HH
          have hu0 : 0 < u.size := Nat.pos_of_ne_zero hu
          have hne : u.toList.isEmpty = false := (decide_eq_emptyBytes u).symm.trans (decide_eq_false (fun h => hu (by rw [h]; rfl)))
          have r0 := bt_range u 0
          have hx0 : ∀ h : 0 < u.size, ((u[0]'h).toNat : Int) = bt u 0 := bt_at u 0
          have qi0 : (0 < (u.size : Int)) = True := eq_true (by omega)
          replace hu0 := eq_true hu0
          have HR0 := Aside0.mk r0
          by_cases cA : bt u 0 < 32 ∨ bt u 0 > 126 ∨ bt u 0 = 34 ∨ (bt u 0 = 92 ∧ u.size < 2)
          · have hs : ustep u = none := if_pos cA
            rw [hs] at H
            obtain ⟨rfl, rfl⟩ := Prod.mk.inj (Option.some.inj H)
            clear H hs
            rcases cA with cA | cA | cA | ⟨cA, cB⟩
            · go_wp2_with fail
              (try simp only [Exit.jump])
              go_ret2
              exact ⟨rfl, HBN.out.trans (HBEL.out.mono (Nat.le_of_lt on.lt))⟩
            · go_wp2_with fail
              (try simp only [Exit.jump])
              go_ret2
              exact ⟨rfl, HBN.out.trans (HBEL.out.mono (Nat.le_of_lt on.lt))⟩
            · go_wp2_with fail
              (try simp only [Exit.jump])
              go_ret2
              exact ⟨rfl, HBN.out.trans (HBEL.out.mono (Nat.le_of_lt on.lt))⟩
            · go_wp2_with fail
              (try simp only [Exit.jump])
              go_ret2
              exact ⟨rfl, HBN.out.trans (HBEL.out.mono (Nat.le_of_lt on.lt))⟩
          · have hu0' : 0 < u.size := of_eq_true hu0
            by_cases cC : bt u 0 = 92
            · have hsz : 2 ≤ u.size := by omega
              have HR1 := Aside0.mk (bt_range u 1)
              have hx1 : ∀ h : 1 < u.size, ((u[1]'h).toNat : Int) = bt u 1 := bt_at u 1
              have hu1 : (1 < u.size) = True := eq_true (by omega)
              have qi1 : (1 < (u.size : Int)) = True := eq_true (by omega)
              by_cases cD : bt u 1 = 120
              · have HR2 := Aside0.mk (bt_range u 2)
                have HR3 := Aside0.mk (bt_range u 3)
                by_cases cE : u.size < 4 ∨ digitD (bt u 2) < 0 ∨ digitD (bt u 3) < 0
                · have hs : ustep u = none := by unfold ustep; rw [if_neg cA, if_pos cC, if_pos cD, if_pos cE]
                  rw [hs] at H
                  obtain ⟨rfl, rfl⟩ := Prod.mk.inj (Option.some.inj H)
                  clear H hs
                  by_cases c4 : u.size < 4
                  · clear cE
                    go_wp2_with fail
                    (try simp only [Exit.jump])
                    go_ret2
                    refine ⟨rfl, HBN.out.trans (Below.mono (B := wn.heap.size) ?_ (Nat.le_of_lt on.lt))⟩
                    repeat (first | exact HBEL.out | apply below_alloc | apply pw_below_drewN | apply below_drew1)
                  · have hx2 : ∀ h : 2 < u.size, ((u[2]'h).toNat : Int) = bt u 2 := bt_at u 2
                    have hu2 : (2 < u.size) = True := eq_true (by omega)
                    have qi2 : (2 < (u.size : Int)) = True := eq_true (by omega)
                    have hx3 : ∀ h : 3 < u.size, ((u[3]'h).toNat : Int) = bt u 3 := bt_at u 3
                    have hu3 : (3 < u.size) = True := eq_true (by omega)
                    have qi3 : (3 < (u.size : Int)) = True := eq_true (by omega)
                    have r2' := HR2.out
                    have r3' := HR3.out
                    by_cases d2 : digitD (bt u 2) < 0
                    · clear cE
                      go_wp2_with (first | (go_at_call 47; (with_reducible refine (digit_any (bt u 2) HR2.out.1 HR2.out.2 _).mono ?_); rintro e w' ⟨rfl, ⟨nd, rfl⟩⟩; (try first | exact ⟨rfl, _, World.drewN_drewN _ _ _⟩ | exact ⟨rfl, _, Eq.trans (World.drewN_drewN _ _ _) (congrArg (World.drewN _) (Nat.add_assoc _ _ _))⟩)) | (go_at_call 47; (with_reducible refine (digit_any (bt u 3) HR3.out.1 HR3.out.2 _).mono ?_); rintro e w' ⟨rfl, ⟨nd, rfl⟩⟩; (try first | exact ⟨rfl, _, World.drewN_drewN _ _ _⟩ | exact ⟨rfl, _, Eq.trans (World.drewN_drewN _ _ _) (congrArg (World.drewN _) (Nat.add_assoc _ _ _))⟩)))
                      (try simp only [Exit.jump])
                      go_ret2
                      refine ⟨rfl, HBN.out.trans (Below.mono (B := wn.heap.size) ?_ (Nat.le_of_lt on.lt))⟩
                      repeat (first | exact HBEL.out | apply below_alloc | apply pw_below_drewN | apply below_drew1)
                    · have d3 : digitD (bt u 3) < 0 := by omega
                      clear cE
                      go_wp2_with (first | (go_at_call 47; (with_reducible refine (digit_any (bt u 2) HR2.out.1 HR2.out.2 _).mono ?_); rintro e w' ⟨rfl, ⟨nd, rfl⟩⟩; (try first | exact ⟨rfl, _, World.drewN_drewN _ _ _⟩ | exact ⟨rfl, _, Eq.trans (World.drewN_drewN _ _ _) (congrArg (World.drewN _) (Nat.add_assoc _ _ _))⟩)) | (go_at_call 47; (with_reducible refine (digit_any (bt u 3) HR3.out.1 HR3.out.2 _).mono ?_); rintro e w' ⟨rfl, ⟨nd, rfl⟩⟩; (try first | exact ⟨rfl, _, World.drewN_drewN _ _ _⟩ | exact ⟨rfl, _, Eq.trans (World.drewN_drewN _ _ _) (congrArg (World.drewN _) (Nat.add_assoc _ _ _))⟩)))
                      (try simp only [Exit.jump])
                      go_ret2
                      refine ⟨rfl, HBN.out.trans (Below.mono (B := wn.heap.size) ?_ (Nat.le_of_lt on.lt))⟩
                      repeat (first | exact HBEL.out | apply below_alloc | apply pw_below_drewN | apply below_drew1)
                · have hs : ustep u = some (digitD (bt u 2) * 16 + digitD (bt u 3), 4) := by unfold ustep; rw [if_neg cA, if_pos cC, if_pos cD, if_neg cE]
                  have HS := Aside0.mk hs
                  clear hs
                  have hx2 : ∀ h : 2 < u.size, ((u[2]'h).toNat : Int) = bt u 2 := bt_at u 2
                  have hu2 : (2 < u.size) = True := eq_true (by omega)
                  have qi2 : (2 < (u.size : Int)) = True := eq_true (by omega)
                  have hx3 : ∀ h : 3 < u.size, ((u[3]'h).toNat : Int) = bt u 3 := bt_at u 3
                  have hu3 : (3 < u.size) = True := eq_true (by omega)
                  have qi3 : (3 < (u.size : Int)) = True := eq_true (by omega)
                  have r2' := HR2.out
                  have r3' := HR3.out
                  have h4 : 4 ≤ u.size := by omega
                  have d2 : decide (digitD (bt u 2) < 0) = false := decide_eq_false (by omega)
                  have d3 : decide (digitD (bt u 3) < 0) = false := decide_eq_false (by omega)
                  have d4 : decide ((u.size : Int) < 4) = false := decide_eq_false (by omega)
                  clear cE
                  go_wp2_with (first | (go_at_call 47; (with_reducible refine (digit_any (bt u 2) HR2.out.1 HR2.out.2 _).mono ?_); rintro e w' ⟨rfl, ⟨nd, rfl⟩⟩; (try first | exact ⟨rfl, _, World.drewN_drewN _ _ _⟩ | exact ⟨rfl, _, Eq.trans (World.drewN_drewN _ _ _) (congrArg (World.drewN _) (Nat.add_assoc _ _ _))⟩)) | (go_at_call 47; (with_reducible refine (digit_any (bt u 3) HR3.out.1 HR3.out.2 _).mono ?_); rintro e w' ⟨rfl, ⟨nd, rfl⟩⟩; (try first | exact ⟨rfl, _, World.drewN_drewN _ _ _⟩ | exact ⟨rfl, _, Eq.trans (World.drewN_drewN _ _ _) (congrArg (World.drewN _) (Nat.add_assoc _ _ _))⟩)))
                  repeat (go_quiet (first | (go_at_call 47; (with_reducible refine (digit_any (bt u 2) HR2.out.1 HR2.out.2 _).mono ?_); rintro e w' ⟨rfl, ⟨nd, rfl⟩⟩; (try first | exact ⟨rfl, _, World.drewN_drewN _ _ _⟩ | exact ⟨rfl, _, Eq.trans (World.drewN_drewN _ _ _) (congrArg (World.drewN _) (Nat.add_assoc _ _ _))⟩)) | (go_at_call 47; (with_reducible refine (digit_any (bt u 3) HR3.out.1 HR3.out.2 _).mono ?_); rintro e w' ⟨rfl, ⟨nd, rfl⟩⟩; (try first | exact ⟨rfl, _, World.drewN_drewN _ _ _⟩ | exact ⟨rfl, _, Eq.trans (World.drewN_drewN _ _ _) (congrArg (World.drewN _) (Nat.add_assoc _ _ _))⟩))))
                  rw [hexor _ _ (by have := of_decide_eq_false d2; omega) (digitD_lt _) (by have := of_decide_eq_false d3; omega) (digitD_lt _)]
                  generalize hcv : digitD (bt u 2) * 16 + digitD (bt u 3) = cv at HS ⊢
                  have hs := HS.out
                  clear HS
                  by_cases hL0 : acc.length < 140737488355328
                  · rw [hs] at H
                    have H' : unq kq (u.extract 4 u.size) (acc ++ [cv]) = some (r1, r2) := by have := H; simp only [] at this; rw [if_pos hL0] at this; exact this
                    have HU := Aside0.mk H'
                    have hL := Aside0.mk hL0
                    clear H H' hs hL0
                    go_wp2_with ((with_reducible refine gate_builtin (b := .append) (xs := #[.tmp 105, .tmp 107]) rfl ?_); (try (refine gate_guard (by rfl) ?_; dsimp only)); at_builtin; refine Kd.R_append (Kd.int .u8) (w0 := wn) wn.heap.size rfl (.tmp 105) (.tmp 107) 94 5 (.int .u8 0) 1 rfl Tryd.underlying94 info5 rfl (by decide) (by omega) v8 acc (cv) [.int .u8 (cv)] (fun _ => True) (fun _ => False) rfl rfl ?aP (fun _ hk => hk.elim) ?aF ?aO ?aB ?aS ?aL ?_; (case aP => exact rfl); (case aB => exact (by repeat (first | exact HBEL.out | apply below_alloc | apply pw_below_drewN | apply below_drew1))); (case aF => exact (fun _ _ => trivial)); (case aO => exact (by (with_reducible repeat (first | apply Kd.R_alloc | apply Kd.R_drewN | apply Kd.R_drew)); exact HROW.out)); (case aS => exact (below_size (by repeat (first | exact HBEL.out | apply below_alloc | apply pw_below_drewN | apply below_drew1)))); (case aL => have := hL.out; omega); intro v1 w20 ho hb hg hat; have HO1 := Aside0.mk ho; have HB1 := Aside0.mk hb; clear ho hb hg hat)
                    go_step3
                    refine ⟨rfl, ⟨rfl, rfl, rfl, rfl, rfl, rfl, rfl, _, _, _, kq, wn, rfl, rfl, on, HBN.out, ⟨HU.out, HO1.out, HB1.out⟩⟩, ?_⟩
                    show (u.extract 4 u.size).size < u.size
                    rw [ByteArray.size_extract]; omega
                  · rw [hs] at H
                    exfalso; have := H; simp only [] at this; rw [if_neg hL0] at this; cases this
              · cases hlo : longOf (bt u 1) with
                | none =>
                  have hs : ustep u = none := by unfold ustep; rw [if_neg cA, if_pos cC, if_neg cD, hlo]; rfl
                  rw [hs] at H
                  obtain ⟨rfl, rfl⟩ := Prod.mk.inj (Option.some.inj H)
                  clear H hs
                  have hmiss : Maps.has namedD (.int .u8 (bt u 1)) = false := by
                    apply Maps.has_false_of_atKey; intro z; rw [namedD_at, hlo]
                  have HL := Aside0.mk hlo
                  clear hlo
                  go_wp2_with (first | (at_lookup; refine wpList_lookup_own_ok_int _ rfl _ _ 92 rfl 5 5 .u8 law5 Tryd.underlying92 Tryd.underlying5 (zero5 _) w.heap.size 4 namedD rfl HON.out _ _ rfl (Maps.keyOf_int_mk Tryd.underlying5 (wf_u8b (bt_range u 1))) ?_; intro cL hat hwc; rw [hmiss]; clear hat hwc))
                  (try simp only [Exit.jump])
                  go_ret2
                  refine ⟨rfl, HBN.out.trans (Below.mono (B := wn.heap.size) ?_ (Nat.le_of_lt on.lt))⟩
                  repeat (first | exact HBEL.out | apply below_alloc | apply pw_below_drewN | apply below_drew1)
                | some c =>
                  have hs : ustep u = some (c, 2) := by unfold ustep; rw [if_neg cA, if_pos cC, if_neg cD, hlo]; rfl
                  have hhit : Maps.has namedD (.int .u8 (bt u 1)) = true := namedD_has _ _ hlo
                  have hval : ∀ z, namedD.atKey (.int .u8 (bt u 1)) z = .lit (.int .u8 c) := by intro z; rw [namedD_at, hlo]
                  have HV := Aside0.mk hval
                  have HL := Aside0.mk hlo
                  clear hlo hval
                  by_cases hL0 : acc.length < 140737488355328
                  · rw [hs] at H
                    have H' : unq kq (u.extract 2 u.size) (acc ++ [c]) = some (r1, r2) := by have := H; simp only [] at this; rw [if_pos hL0] at this; exact this
                    have HU := Aside0.mk H'
                    have hL := Aside0.mk hL0
                    clear H H' hs hL0
                    go_wp2_with (first | (at_lookup; refine wpList_lookup_own_ok_int _ rfl _ _ 92 rfl 5 5 .u8 law5 Tryd.underlying92 Tryd.underlying5 (zero5 _) w.heap.size 4 namedD rfl HON.out _ _ rfl (Maps.keyOf_int_mk Tryd.underlying5 (wf_u8b (bt_range u 1))) ?_; intro cL hat hwc; rw [hhit]; obtain rfl := lit_inj (hat.symm.trans (HV.out _)); clear hat hwc) | ((with_reducible refine gate_builtin (b := .append) (xs := #[.tmp 105, .tmp 107]) rfl ?_); (try (refine gate_guard (by rfl) ?_; dsimp only)); at_builtin; refine Kd.R_append (Kd.int .u8) (w0 := wn) wn.heap.size rfl (.tmp 105) (.tmp 107) 94 5 (.int .u8 0) 1 rfl Tryd.underlying94 info5 rfl (by decide) (by omega) v8 acc (cL) [.int .u8 (cL)] (fun _ => True) (fun _ => False) rfl rfl ?aP (fun _ hk => hk.elim) ?aF ?aO ?aB ?aS ?aL ?_; (case aP => exact rfl); (case aB => exact (by repeat (first | exact HBEL.out | apply below_alloc | apply pw_below_drewN | apply below_drew1))); (case aF => exact (fun _ _ => trivial)); (case aO => exact (by (with_reducible repeat (first | apply Kd.R_alloc | apply Kd.R_drewN | apply Kd.R_drew)); exact HROW.out)); (case aS => exact (below_size (by repeat (first | exact HBEL.out | apply below_alloc | apply pw_below_drewN | apply below_drew1)))); (case aL => have := hL.out; omega); intro v1 w20 ho hb hg hat; have HO1 := Aside0.mk ho; have HB1 := Aside0.mk hb; clear ho hb hg hat))
                    go_step3
                    refine ⟨rfl, ⟨rfl, rfl, rfl, rfl, rfl, rfl, rfl, _, _, _, kq, wn, rfl, rfl, on, HBN.out, ⟨HU.out, HO1.out, HB1.out⟩⟩, ?_⟩
                    show (u.extract 2 u.size).size < u.size
                    rw [ByteArray.size_extract]; omega
                  · rw [hs] at H
                    exfalso; have := H; simp only [] at this; rw [if_neg hL0] at this; cases this
            · have hs : ustep u = some (bt u 0, 1) := by unfold ustep; rw [if_neg cA, if_neg cC]
              by_cases hL0 : acc.length < 140737488355328
              · rw [hs] at H
                have H' : unq kq (u.extract 1 u.size) (acc ++ [bt u 0]) = some (r1, r2) := by have := H; simp only [] at this; rw [if_pos hL0] at this; exact this
                have HU := Aside0.mk H'
                have hL := Aside0.mk hL0
                clear H H' hs hL0
                have a1 : decide (bt u 0 < 32) = false := decide_eq_false (by omega)
                have a2 : decide (126 < bt u 0) = false := decide_eq_false (by omega)
                have a3 : (bt u 0 == 34) = false := beq_eq_false_iff_ne.mpr (by omega)
                have a4 : (bt u 0 == 92) = false := beq_eq_false_iff_ne.mpr cC
                have a5 := HR0.out
                go_wp2_with ((with_reducible refine gate_builtin (b := .append) (xs := #[.tmp 105, .tmp 107]) rfl ?_); (try (refine gate_guard (by rfl) ?_; dsimp only)); at_builtin; refine Kd.R_append (Kd.int .u8) (w0 := wn) wn.heap.size rfl (.tmp 105) (.tmp 107) 94 5 (.int .u8 0) 1 rfl Tryd.underlying94 info5 rfl (by decide) (by omega) v8 acc (bt u 0) [.int .u8 (bt u 0)] (fun _ => True) (fun _ => False) rfl rfl ?aP (fun _ hk => hk.elim) ?aF ?aO ?aB ?aS ?aL ?_; (case aP => exact rfl); (case aB => exact (by repeat (first | exact HBEL.out | apply below_alloc | apply pw_below_drewN | apply below_drew1))); (case aF => exact (fun _ _ => trivial)); (case aO => exact (by (with_reducible repeat (first | apply Kd.R_alloc | apply Kd.R_drewN | apply Kd.R_drew)); exact HROW.out)); (case aS => exact (below_size (by repeat (first | exact HBEL.out | apply below_alloc | apply pw_below_drewN | apply below_drew1)))); (case aL => have := hL.out; omega); intro v1 w20 ho hb hg hat; have HO1 := Aside0.mk ho; have HB1 := Aside0.mk hb; clear ho hb hg hat)
                go_step3
                refine ⟨rfl, ⟨rfl, rfl, rfl, rfl, rfl, rfl, rfl, _, _, _, kq, wn, rfl, rfl, on, HBN.out, ⟨HU.out, HO1.out, HB1.out⟩⟩, ?_⟩
                show (u.extract 1 u.size).size < u.size
                rw [ByteArray.size_extract]; omega
              · rw [hs] at H
                exfalso; have := H; simp only [] at this; rw [if_neg hL0] at this; cases this
    · intro hpass
      go_wp2_with (first | ((with_reducible refine gate_callee (f := 44) rfl ?_); refine goesL_ (some 13) rfl rfl Tryd.func44 (by kernel_rfl) rfl #[.string a0, .string ⟨#[34]⟩] rfl (by (try simp only [List.map_toArray, List.map_cons, List.map_nil]); first | done | rfl) ?_; (with_reducible refine (cutP a0 _).mono ?_); rintro e w' ⟨rfl, rfl⟩; refine ⟨_, rfl, ?_⟩) | ((with_reducible refine gate_callee (f := 45) rfl ?_); refine goesL_ (some 18) rfl rfl Tryd.func45 (by kernel_rfl) rfl #[.string ⟨(Lib.trimPrefix a0.data.toList [34]).toArray⟩, .string ⟨#[34]⟩] rfl (by (try simp only [List.map_toArray, List.map_cons, List.map_nil]); first | done | rfl) ?_; (with_reducible refine (cutS _ htl _).mono ?_); rintro e w' ⟨rfl, rfl⟩; refine ⟨_, rfl, ?_⟩))
      go_wp2_with (with_reducible refine (named_any _).mono ?_)
      rintro e wn ⟨rfl, on, bn⟩
      go_wp2_with fail
      go_step3
      show _
      refine (‹∀ (a : Act) (w : World), Code.wp Tryd.prog _ _ a w → _› _ _ (hpass _ _ ?_))
      exact ⟨rfl, rfl, rfl, rfl, rfl, rfl, rfl, _, [], .slice none 0 0, k, wn, rfl, rfl, on, bn, ⟨HH.out, Kd.R_nil _ _ _ _ _, Below.refl _ _⟩⟩
  · have HH' : some ((⟨#[]⟩ : ByteArray), (4 : Int)) = some (r1, r2) := by have := HH.out; unfold unquote.f at this; rw [if_neg hps] at this; exact this
    clear HH
    obtain ⟨rfl, rfl⟩ := Prod.mk.inj (Option.some.inj HH')
    refine wp_scope_straight ?_
    by_cases hp : Lib.hasPrefix a0.data.toList [34] = true
    · have hs : ¬ Lib.hasSuffix (Lib.trimPrefix a0.data.toList [34]) [34] = true := fun h => hps ⟨hp, h⟩
      clear hps
      go_wp2_with (first | ((with_reducible refine gate_callee (f := 44) rfl ?_); refine goesL_ (some 13) rfl rfl Tryd.func44 (by kernel_rfl) rfl #[.string a0, .string ⟨#[34]⟩] rfl (by (try simp only [List.map_toArray, List.map_cons, List.map_nil]); first | done | rfl) ?_; (with_reducible refine (cutP a0 _).mono ?_); rintro e w' ⟨rfl, rfl⟩; refine ⟨_, rfl, ?_⟩) | ((with_reducible refine gate_callee (f := 45) rfl ?_); refine goesL_ (some 18) rfl rfl Tryd.func45 (by kernel_rfl) rfl #[.string ⟨(Lib.trimPrefix a0.data.toList [34]).toArray⟩, .string ⟨#[34]⟩] rfl (by (try simp only [List.map_toArray, List.map_cons, List.map_nil]); first | done | rfl) ?_; (with_reducible refine (cutS _ htl _).mono ?_); rintro e w' ⟨rfl, rfl⟩; refine ⟨_, rfl, ?_⟩))
      go_ret2
      exact ⟨rfl, Below.refl _ _⟩
    · clear hps
      go_wp2_with (first | ((with_reducible refine gate_callee (f := 44) rfl ?_); refine goesL_ (some 13) rfl rfl Tryd.func44 (by kernel_rfl) rfl #[.string a0, .string ⟨#[34]⟩] rfl (by (try simp only [List.map_toArray, List.map_cons, List.map_nil]); first | done | rfl) ?_; (with_reducible refine (cutP a0 _).mono ?_); rintro e w' ⟨rfl, rfl⟩; refine ⟨_, rfl, ?_⟩) | ((with_reducible refine gate_callee (f := 45) rfl ?_); refine goesL_ (some 18) rfl rfl Tryd.func45 (by kernel_rfl) rfl #[.string ⟨(Lib.trimPrefix a0.data.toList [34]).toArray⟩, .string ⟨#[34]⟩] rfl (by (try simp only [List.map_toArray, List.map_cons, List.map_nil]); first | done | rfl) ?_; (with_reducible refine (cutS _ htl _).mono ?_); rintro e w' ⟨rfl, rfl⟩; refine ⟨_, rfl, ?_⟩))
      go_ret2
      exact ⟨rfl, Below.refl _ _⟩
end Go.Proofs.YtlbaejihlcfpeaaDoor.H
end
