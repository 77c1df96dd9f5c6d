import Derived.Test.YtkkgbbfojmnopaaPReGx0
import Derived.Test.YtkkgbbfojmnopaaPReGxF50
set_option linter.unusedVariables false
set_option linter.unusedSimpArgs false
section
namespace Go.Proofs.Ytkkgbbfojmnopaa.G
open Go.RowKit Go.Proofs.YtkkgbbfojmnopaaW.PrintWords Go.Proofs.YtkkgbbfojmnopaaW.PrintLast Go.Proofs.YtkkgbbfojmnopaaW.PrintMore
attribute [local go_sem] q26q q27q q34q q35q q22q q23q q28q q29q
def fQ3.f (k : Nat) (s0_0 : ByteArray) (s0_1 : Bool) (a1 : Int) : Option (Int × ByteArray × Bool) := (fQ4.f k s0_0 s0_1).bind fun bt323 => (if bt323.1 > (IntKind.u64.wrap (a1)) then (some (0, bt323.2.1, true)) else (some (wrap64 (bt323.1), bt323.2.1, bt323.2.2)))
set_option maxHeartbeats 8000000 in
set_option maxRecDepth 100000 in
theorem fQ3.calls (k : Nat) (g : Nat) (s0_0 : ByteArray) (s0_1 : Bool) (a1 : Int) (r1 : Int) (r2 : ByteArray) (r3 : Bool) (w0 w : World) (hI : IsS68 w0 w g s0_0 s0_1) (hB : Below w0.heap.size w0 w) (h : fQ3.f k s0_0 s0_1 a1 = some (r1, r2, r3)) :
  Calls Try.prog 28 #[.pointer (some ⟨g, 0, none⟩), .int .i64 a1] w fun e w' => e = .returned (.int .i64 r1) ∧ IsS68 w0 w' g r2 r3 ∧ Below w0.heap.size w0 w' ∧ KeepBut w w' g none := by
 have HI0 := Aq.mk hI
 have HK := Aq.mk (KeepBut.refl w g none)
 have HL := Aq.mk hB.size
 clear hI
 have HW0 := Aq.mk hB.size
 have HB := Aq.mk hB
 clear hB
 have H : ((fQ4.f k s0_0 s0_1).bind fun bt323 => (if bt323.1 > (IntKind.u64.wrap (a1)) then (some (0, bt323.2.1, true)) else (some (wrap64 (bt323.1), bt323.2.1, bt323.2.2)))) = some (r1, r2, r3) := h
 clear h
 replace H := Option.bind_eq_some_iff.mp H
 obtain ⟨⟨t323, t324, t325⟩, A30, H⟩ := H
 replace H : (if t323 > (IntKind.u64.wrap (a1)) then (some (0, t324, true)) else (some (wrap64 (t323), t324, t325))) = some (r1, r2, r3) := H
 have A3 := Aq.mk A30
 clear A30
 by_cases c4 : t323 > (IntKind.u64.wrap (a1))
 case neg =>
  rw [if_neg c4] at H
  have c4b0 : decide ((IntKind.u64.wrap (a1)) < t323) = false := decide_eq_false c4
  clear c4
  simp only [Option.some.injEq, Prod.mk.injEq] at H
  obtain ⟨rfl, rfl, rfl⟩ := H
  go_enter Try.func28, Try.ntmps28
  go_wp2_with (first | ((with_reducible refine q15q (f := 50) rfl ?_); refine q24q (some 7) rfl rfl Try.func50 (by kernel_rfl) rfl #[.pointer (some ⟨g, 0, none⟩)] rfl (by (try simp only [List.map_toArray, List.map_cons, List.map_nil]); first | done | rfl) ?_; (with_reducible refine (fQ4.calls k g s0_0 s0_1 t323 t324 t325 w0 _ ?side1 ?side2 A3.out).mono ?_); (case side1 => repeat (first | (with_reducible first | exact HI0.out | apply IsS68.alloc | apply IsS68.drewN | apply IsS68.drew | apply IsS68.set_0 | apply IsS68.set_1) | exact HI0.out)); (case side2 => repeat (with_reducible first | exact HB.out | apply q4q | apply q0q | apply q2q | refine q5q ?_ (IsS68.ge HI0.out))); rintro e w7 ⟨rfl, hi, hb, hk⟩; refine ⟨_, rfl, ?_⟩; have n0_ := Aq.mk (KeepBut.trans (by repeat (first | (with_reducible first | exact HK.out | apply KeepBut.set_ | apply keep_drewN | apply keep_drew | apply keep_alloc) | exact HK.out)) hk (.inl rfl)); have n1_ := Aq.mk (hb); have n2_ := Aq.mk (hi); clear HK; clear HB; clear HI0; have HK := n0_; have HB := n1_; have HI0 := n2_; clear n0_ n1_ n2_; (try clear hb); (try clear hb2); (try clear hk); (try clear hi)))
  go_ret
  exact ⟨by first | rfl | (simp [*] <;> rfl), by repeat (first | (with_reducible first | exact HI0.out | apply IsS68.alloc | apply IsS68.drewN | apply IsS68.drew | apply IsS68.set_0 | apply IsS68.set_1) | exact HI0.out), by repeat (with_reducible first | exact HB.out | apply q4q | apply q0q | apply q2q | refine q5q ?_ (IsS68.ge HI0.out)), by repeat (first | (with_reducible first | exact HK.out | apply KeepBut.set_ | apply keep_drewN | apply keep_drew | apply keep_alloc) | exact HK.out)⟩
 rw [if_pos c4] at H
 have c4b0 : decide ((IntKind.u64.wrap (a1)) < t323) = true := decide_eq_true c4
 clear c4
 simp only [Option.some.injEq, Prod.mk.injEq] at H
 obtain ⟨rfl, rfl, rfl⟩ := H
 go_enter Try.func28, Try.ntmps28
 go_wp2_with (first | ((with_reducible refine q15q (f := 50) rfl ?_); refine q24q (some 7) rfl rfl Try.func50 (by kernel_rfl) rfl #[.pointer (some ⟨g, 0, none⟩)] rfl (by (try simp only [List.map_toArray, List.map_cons, List.map_nil]); first | done | rfl) ?_; (with_reducible refine (fQ4.calls k g s0_0 s0_1 t323 t324 t325 w0 _ ?side1 ?side2 A3.out).mono ?_); (case side1 => repeat (first | (with_reducible first | exact HI0.out | apply IsS68.alloc | apply IsS68.drewN | apply IsS68.drew | apply IsS68.set_0 | apply IsS68.set_1) | exact HI0.out)); (case side2 => repeat (with_reducible first | exact HB.out | apply q4q | apply q0q | apply q2q | refine q5q ?_ (IsS68.ge HI0.out))); rintro e w5 ⟨rfl, hi, hb, hk⟩; refine ⟨_, rfl, ?_⟩; have n0_ := Aq.mk (KeepBut.trans (by repeat (first | (with_reducible first | exact HK.out | apply KeepBut.set_ | apply keep_drewN | apply keep_drew | apply keep_alloc) | exact HK.out)) hk (.inl rfl)); have n1_ := Aq.mk (hb); have n2_ := Aq.mk (hi); clear HK; clear HB; clear HI0; have HK := n0_; have HB := n1_; have HI0 := n2_; clear n0_ n1_ n2_; (try clear hb); (try clear hb2); (try clear hk); (try clear hi); obtain ⟨HGz6, hgz6⟩ := HI0.out; have hcz6_0 := cellS68_0 HGz6; have hcz6_1 := cellS68_1 HGz6; have hfz6_0 := q1q HGz6 0; have hfz6_1 := q1q HGz6 1; clear HGz6 hgz6))
 go_ret
 exact ⟨by first | rfl | (simp [*] <;> rfl), by repeat (first | (with_reducible first | exact HI0.out | apply IsS68.alloc | apply IsS68.drewN | apply IsS68.drew | apply IsS68.set_0 | apply IsS68.set_1) | exact HI0.out), by repeat (with_reducible first | exact HB.out | apply q4q | apply q0q | apply q2q | refine q5q ?_ (IsS68.ge HI0.out)), by repeat (first | (with_reducible first | exact HK.out | apply KeepBut.set_ | apply keep_drewN | apply keep_drew | apply keep_alloc) | exact HK.out)⟩
end Go.Proofs.Ytkkgbbfojmnopaa.G
end
