import Derived.Test.YtadhkfklkbdabaaRPPuGx0
set_option linter.unusedVariables false
set_option linter.unusedSimpArgs false
section
namespace Go.Proofs.YtadhkfklkbdabaaR.G
open Go.RowKit Go.Proofs.YtadhkfklkbdabaaRW.PrintWords Go.Proofs.YtadhkfklkbdabaaRW.PrintLast Go.Proofs.YtadhkfklkbdabaaRW.PrintMore
attribute [local go_sem] max2_int min2_int max_two min_two max_three min_three max_four min_four
set_option linter.unusedVariables false
set_option linter.unusedSimpArgs false
def tallowref09_without.f (l0 : List (S24)) (a1 : Int) : Option ((List (S24))) := if 0 ≤ (wrap64 ((l0.length : Int) - 2)) then (if (wrap64 ((l0.length : Int) - 2)) ≤ (l0.length : Int) then ((some (l0.take ((wrap64 ((l0.length : Int) - 2)) : Int).toNat : List (S24))).bind fun y193 => (if ([] : List (S24)).length + y193.length < 8796093022208 then ((some (([] : List (S24)) ++ y193 : List (S24))).bind fun y197 => (if a1 < (y197.length : Int) then (if (wrap64 ((l0.length : Int) - 2)) < (l0.length : Int) then (if 0 ≤ a1 then (if 0 ≤ (wrap64 ((l0.length : Int) - 1)) then (if (wrap64 ((l0.length : Int) - 1)) < (l0.length : Int) then (if 0 ≤ (wrap64 (a1 + 1)) then (if (wrap64 (a1 + 1)) < (y197.length : Int) then (some ((y197.set (a1 : Int).toNat (⟨(rd_T24 l0 (wrap64 ((l0.length : Int) - 2))).f0, (rd_T24 l0 (wrap64 ((l0.length : Int) - 2))).f1⟩ : S24)).set ((wrap64 (a1 + 1)) : Int).toNat (⟨(rd_T24 l0 (wrap64 ((l0.length : Int) - 1))).f0, (rd_T24 l0 (wrap64 ((l0.length : Int) - 1))).f1⟩ : S24))) else (none)) else (none)) else (none)) else (none)) else (none)) else (none)) else (some y197))) else (none))) else (none)) else (none)
set_option maxHeartbeats 8000000 in
set_option maxRecDepth 100000 in
theorem tallowref09_without.calls (A0 : Option Addr) (c0 : Nat) (l0 : List (S24)) (a1 : Int) (r : List (S24)) (w : World) (hr0 : Kd.C k24 w A0 l0.length l0) (hc0 : l0.length ≤ c0) (h : tallowref09_without.f l0 a1 = some r) :
  Calls Try.prog 58 #[.slice A0 l0.length c0, .int .i64 a1] w fun e w' => ∃ v0_ : Value, e = .returned (v0_) ∧ Kd.R k24 24 w' w.heap.size (fun _ => True) v0_ r ∧ Below w.heap.size w w' := by
 have hu24 := Try.underlying24
 have HR0 := Aside0.mk hr0
 have HC0 := Aside0.mk hc0
 clear hr0 hc0
 have HB := Aside0.mk (Below.refl w.heap.size w)
 have H : (if 0 ≤ (wrap64 ((l0.length : Int) - 2)) then (if (wrap64 ((l0.length : Int) - 2)) ≤ (l0.length : Int) then ((some (l0.take ((wrap64 ((l0.length : Int) - 2)) : Int).toNat : List (S24))).bind fun y193 => (if ([] : List (S24)).length + y193.length < 8796093022208 then ((some (([] : List (S24)) ++ y193 : List (S24))).bind fun y197 => (if a1 < (y197.length : Int) then (if (wrap64 ((l0.length : Int) - 2)) < (l0.length : Int) then (if 0 ≤ a1 then (if 0 ≤ (wrap64 ((l0.length : Int) - 1)) then (if (wrap64 ((l0.length : Int) - 1)) < (l0.length : Int) then (if 0 ≤ (wrap64 (a1 + 1)) then (if (wrap64 (a1 + 1)) < (y197.length : Int) then (some ((y197.set (a1 : Int).toNat (⟨(rd_T24 l0 (wrap64 ((l0.length : Int) - 2))).f0, (rd_T24 l0 (wrap64 ((l0.length : Int) - 2))).f1⟩ : S24)).set ((wrap64 (a1 + 1)) : Int).toNat (⟨(rd_T24 l0 (wrap64 ((l0.length : Int) - 1))).f0, (rd_T24 l0 (wrap64 ((l0.length : Int) - 1))).f1⟩ : S24))) else (none)) else (none)) else (none)) else (none)) else (none)) else (none)) else (some y197))) else (none))) else (none)) else (none)) = some r := h
 clear h
 obtain ⟨ji3, hji3⟩ : ∃ j_ : Int, (wrap64 ((l0.length : Int) - 2)) = j_ := ⟨_, rfl⟩
 replace H : (if 0 ≤ (ji3) then (if (ji3) ≤ (l0.length : Int) then ((some (l0.take ((ji3) : Int).toNat : List (S24))).bind fun y193 => (if ([] : List (S24)).length + y193.length < 8796093022208 then ((some (([] : List (S24)) ++ y193 : List (S24))).bind fun y197 => (if a1 < (y197.length : Int) then (if (ji3) < (l0.length : Int) then (if 0 ≤ a1 then (if 0 ≤ (wrap64 ((l0.length : Int) - 1)) then (if (wrap64 ((l0.length : Int) - 1)) < (l0.length : Int) then (if 0 ≤ (wrap64 (a1 + 1)) then (if (wrap64 (a1 + 1)) < (y197.length : Int) then (some ((y197.set (a1 : Int).toNat (⟨(rd_T24 l0 (ji3)).f0, (rd_T24 l0 (ji3)).f1⟩ : S24)).set ((wrap64 (a1 + 1)) : Int).toNat (⟨(rd_T24 l0 (wrap64 ((l0.length : Int) - 1))).f0, (rd_T24 l0 (wrap64 ((l0.length : Int) - 1))).f1⟩ : S24))) else (none)) else (none)) else (none)) else (none)) else (none)) else (none)) else (some y197))) else (none))) else (none)) else (none)) = some r := by first | (rw [hji3] at H; exact H) | (simp only [hji3] at H ⊢; exact H)
 have hji3w : (IntKind.i64.wrap ((l0.length : Int) - 2)) = ji3 := (i64_w _).trans hji3
 by_cases c4 : 0 ≤ (ji3)
 ·rw [if_pos c4] at H
  have c4b0 := eq_true c4
  have c4b1 : decide (0 ≤ (ji3)) = true := decide_eq_true c4
  clear c4
  by_cases c5 : (ji3) ≤ (l0.length : Int)
  ·rw [if_pos c5] at H
   have c5b0 := eq_true c5
   have c5b1 : decide ((ji3) ≤ (l0.length : Int)) = true := decide_eq_true c5
   clear c5
   obtain ⟨y193, hy193⟩ : ∃ y_ : List (S24), y_ = (l0.take ((ji3) : Int).toNat) := ⟨_, rfl⟩
   replace H : (if ([] : List (S24)).length + y193.length < 8796093022208 then ((some (([] : List (S24)) ++ y193 : List (S24))).bind fun y197 => (if a1 < (y197.length : Int) then (if (ji3) < (l0.length : Int) then (if 0 ≤ a1 then (if 0 ≤ (wrap64 ((l0.length : Int) - 1)) then (if (wrap64 ((l0.length : Int) - 1)) < (l0.length : Int) then (if 0 ≤ (wrap64 (a1 + 1)) then (if (wrap64 (a1 + 1)) < (y197.length : Int) then (some ((y197.set (a1 : Int).toNat (⟨(rd_T24 l0 (ji3)).f0, (rd_T24 l0 (ji3)).f1⟩ : S24)).set ((wrap64 (a1 + 1)) : Int).toNat (⟨(rd_T24 l0 (wrap64 ((l0.length : Int) - 1))).f0, (rd_T24 l0 (wrap64 ((l0.length : Int) - 1))).f1⟩ : S24))) else (none)) else (none)) else (none)) else (none)) else (none)) else (none)) else (some y197))) else (none)) = some r := by first | (rw [hy193]; with_reducible exact H) | (have H2_ := (Option.bind_some _ _).symm.trans H; rw [hy193]; with_reducible exact H2_) | (have H2_ := (Option.bind_some _ _).symm.trans H; with_reducible exact H2_) | with_reducible exact H | (rw [hy193]; exact H) | exact H
   have Ny193 := Aside0.mk hy193
   clear hy193
   by_cases c6 : ([] : List (S24)).length + y193.length < 8796093022208
   ·rw [if_pos c6] at H
    have LMc6 := Aside0.mk c6
    clear c6
    obtain ⟨y197, hy197⟩ : ∃ y_ : List (S24), y_ = (([] : List (S24)) ++ y193) := ⟨_, rfl⟩
    replace H : (if a1 < (y197.length : Int) then (if (ji3) < (l0.length : Int) then (if 0 ≤ a1 then (if 0 ≤ (wrap64 ((l0.length : Int) - 1)) then (if (wrap64 ((l0.length : Int) - 1)) < (l0.length : Int) then (if 0 ≤ (wrap64 (a1 + 1)) then (if (wrap64 (a1 + 1)) < (y197.length : Int) then (some ((y197.set (a1 : Int).toNat (⟨(rd_T24 l0 (ji3)).f0, (rd_T24 l0 (ji3)).f1⟩ : S24)).set ((wrap64 (a1 + 1)) : Int).toNat (⟨(rd_T24 l0 (wrap64 ((l0.length : Int) - 1))).f0, (rd_T24 l0 (wrap64 ((l0.length : Int) - 1))).f1⟩ : S24))) else (none)) else (none)) else (none)) else (none)) else (none)) else (none)) else (some y197)) = some r := by first | (rw [hy197]; with_reducible exact H) | (have H2_ := (Option.bind_some _ _).symm.trans H; rw [hy197]; with_reducible exact H2_) | (have H2_ := (Option.bind_some _ _).symm.trans H; with_reducible exact H2_) | with_reducible exact H | (rw [hy197]; exact H) | exact H
    have Ny197 := Aside0.mk hy197
    clear hy197
    by_cases c7 : a1 < (y197.length : Int)
    ·rw [if_pos c7] at H
     have c7b0 : decide (a1 < (y197.length : Int)) = true := decide_eq_true c7
     clear c7
     by_cases c8 : (ji3) < (l0.length : Int)
     ·rw [if_pos c8] at H
      have c8b0 : decide ((ji3) < (l0.length : Int)) = true := decide_eq_true c8
      clear c8
      by_cases c9 : 0 ≤ a1
      ·rw [if_pos c9] at H
       have c9b0 : decide (0 ≤ a1) = true := decide_eq_true c9
       clear c9
       obtain ⟨y201, hy201⟩ : ∃ y_ : List (S24), y_ = (y197.set (a1 : Int).toNat (⟨(rd_T24 l0 (ji3)).f0, (rd_T24 l0 (ji3)).f1⟩ : S24)) := ⟨_, rfl⟩
       replace H : (if 0 ≤ (wrap64 ((l0.length : Int) - 1)) then (if (wrap64 ((l0.length : Int) - 1)) < (l0.length : Int) then (if 0 ≤ (wrap64 (a1 + 1)) then (if (wrap64 (a1 + 1)) < (y197.length : Int) then (some (y201.set ((wrap64 (a1 + 1)) : Int).toNat (⟨(rd_T24 l0 (wrap64 ((l0.length : Int) - 1))).f0, (rd_T24 l0 (wrap64 ((l0.length : Int) - 1))).f1⟩ : S24))) else (none)) else (none)) else (none)) else (none)) = some r := by first | (rw [hy201]; with_reducible exact H) | (have H2_ := (Option.bind_some _ _).symm.trans H; rw [hy201]; with_reducible exact H2_) | (have H2_ := (Option.bind_some _ _).symm.trans H; with_reducible exact H2_) | with_reducible exact H | (rw [hy201]; exact H) | exact H
       have Ny201 := Aside0.mk hy201
       clear hy201
       obtain ⟨ji11, hji11⟩ : ∃ j_ : Int, (wrap64 ((l0.length : Int) - 1)) = j_ := ⟨_, rfl⟩
       replace H : (if 0 ≤ (ji11) then (if (ji11) < (l0.length : Int) then (if 0 ≤ (wrap64 (a1 + 1)) then (if (wrap64 (a1 + 1)) < (y197.length : Int) then (some (y201.set ((wrap64 (a1 + 1)) : Int).toNat (⟨(rd_T24 l0 (ji11)).f0, (rd_T24 l0 (ji11)).f1⟩ : S24))) else (none)) else (none)) else (none)) else (none)) = some r := by first | (rw [hji11] at H; exact H) | (simp only [hji11] at H ⊢; exact H)
       have hji11w : (IntKind.i64.wrap ((l0.length : Int) - 1)) = ji11 := (i64_w _).trans hji11
       by_cases c12 : 0 ≤ (ji11)
       ·rw [if_pos c12] at H
        have c12b0 : decide (0 ≤ (ji11)) = true := decide_eq_true c12
        clear c12
        by_cases c13 : (ji11) < (l0.length : Int)
        ·rw [if_pos c13] at H
         have c13b0 : decide ((ji11) < (l0.length : Int)) = true := decide_eq_true c13
         clear c13
         obtain ⟨ji14, hji14⟩ : ∃ j_ : Int, (wrap64 (a1 + 1)) = j_ := ⟨_, rfl⟩
         replace H : (if 0 ≤ (ji14) then (if (ji14) < (y197.length : Int) then (some (y201.set ((ji14) : Int).toNat (⟨(rd_T24 l0 (ji11)).f0, (rd_T24 l0 (ji11)).f1⟩ : S24))) else (none)) else (none)) = some r := by first | (rw [hji14] at H; exact H) | (simp only [hji14] at H ⊢; exact H)
         have hji14w : (IntKind.i64.wrap (a1 + 1)) = ji14 := (i64_w _).trans hji14
         by_cases c15 : 0 ≤ (ji14)
         ·rw [if_pos c15] at H
          have c15b0 : decide (0 ≤ (ji14)) = true := decide_eq_true c15
          clear c15
          by_cases c16 : (ji14) < (y197.length : Int)
          ·rw [if_pos c16] at H
           have c16b0 : decide ((ji14) < (y197.length : Int)) = true := decide_eq_true c16
           clear c16
           obtain ⟨y203, hy203⟩ : ∃ y_ : List (S24), y_ = (y201.set ((ji14) : Int).toNat (⟨(rd_T24 l0 (ji11)).f0, (rd_T24 l0 (ji11)).f1⟩ : S24)) := ⟨_, rfl⟩
           replace H : (some y203) = some r := by first | (rw [hy203]; with_reducible exact H) | (have H2_ := (Option.bind_some _ _).symm.trans H; rw [hy203]; with_reducible exact H2_) | (have H2_ := (Option.bind_some _ _).symm.trans H; with_reducible exact H2_) | with_reducible exact H | (rw [hy203]; exact H) | exact H
           have Ny203 := Aside0.mk hy203
           clear hy203
           obtain rfl := Option.some.inj H
           have q18 : ((ji3) : Int) ≤ ((l0.length : Int) : Int) := of_decide_eq_true (by first | (with_reducible assumption) | assumption)
           obtain ⟨i018, hi018, _, hsz18, _⟩ := info_parts info24
           have hroom18 : l0.length ≤ c0 := HC0.out
           have hC18 : Kd.C k24 _ A0 l0.length l0 := HR0.out
           have hcut18 := cut_to (P := Try.prog) 22 24 .i64 Try.underlying22 hi018 A0 l0.length c0 (ji3) (of_decide_eq_true (by first | (with_reducible assumption) | assumption)) q18 hroom18
           have hr18 := Kd.C_take (m := ((ji3) : Int).toNat) hC18 (by omega)
           have hy18 : y193.length = ((ji3) : Int).toNat := (by rw [Ny193.out, List.length_take]; omega)
           rw [← Ny193.out] at hr18
           rw [← hy18] at hcut18
           have HR196 := Aside0.mk hr18
           have HC196 := Aside0.mk (show y193.length ≤ c0 from by omega)
           clear hr18 hC18 hroom18 hi018 hsz18
           have KY18 := Aside0.mk hy18
           clear hy18
           replace q18 := eq_true q18
           go_enter Try.func58, Try.ntmps58
           go_wp2_with (first | ((with_reducible refine gate_builtin (b := .append) (xs := #[.tmp 6, .tmp 11]) rfl ?_); at_builtin; refine Kd.R_append_rows k24 (w0 := w) w.heap.size rfl (.tmp 6) (.tmp 11) 22 24 (.agg #[(.int .i64 0), (.int .i64 0)]) 16 rfl Try.underlying22 info24 rfl (by decide) (by omega) (.slice none 0 0) ([] : List (S24)) y193 _ _ _ (fun _ => True) (fun _ => False) rfl rfl ?aO ?aR (fun _ _ h => h) (fun _ h => h.elim) ?aF ?aB ?aS ?aL ?_; (case aR => repeat (first | exact HR196.out | (with_reducible refine Kd.C_alloc ?_ _) | (with_reducible refine Kd.C_drewN ?_ _) | (with_reducible refine Kd.C_drew ?_))); (case aB => exact (by repeat (first | (with_reducible first | exact HB.out | apply below_alloc | apply pw_below_drewN | apply below_drew1) | exact HB.out))); (case aF => exact (fun _ _ => trivial)); (case aO => exact ((Kd.R_nil _ _ _ _ (fun _ => True)))); (case aS => exact (below_size (by repeat (first | (with_reducible first | exact HB.out | apply below_alloc | apply pw_below_drewN | apply below_drew1) | exact HB.out)))); (case aL => have := LMc6.out; omega); intro v198 w19 ho hb hg hat; rw [← Ny197.out] at ho; have n0_ := Aside0.mk (hb); have n1_ := Aside0.mk (ho); clear HB; have HB := n0_; have HO199 := n1_; clear n0_ n1_; clear ho hb hg hat; obtain ⟨Ao20, co20, eo20⟩ := Kd.R_slice HO199.out; subst eo20; have p200 : 0 ≤ ((ji3) : Int) := of_decide_eq_true (by first | (with_reducible assumption) | assumption); have q200 : (ji3) < (l0.length : Int) := of_decide_eq_true (by first | (with_reducible assumption) | assumption); obtain ⟨ad200, e200, hx200_0, hx200_1⟩ := at_T24 HR0.out (ji3) p200 q200; cases e200; replace hx200_0 := (HB.out.cell (World.block_lt_of_cell? w _ hx200_0)).trans hx200_0; replace hx200_1 := (HB.out.cell (World.block_lt_of_cell? w _ hx200_1)).trans hx200_1; replace p200 := eq_true p200; replace q200 := eq_true q200; have p10 : 0 ≤ (a1 : Int) := of_decide_eq_true (by first | (with_reducible assumption) | assumption); have q10 : (a1 : Int) < ((y197.length : Int) : Int) := of_decide_eq_true (by first | (with_reducible assumption) | assumption); obtain ⟨go10, co10, eo10, gb10, gl10, cl10, HG10⟩ := Kd.R_form HO199.out (by omega); (first | cases eo10 | (injection eo10 with ea_ en_ ec_; (first | subst ea_ | (injection ea_ with ea_; subst ea_)); subst ec_; clear en_)); have GB10 := Aside0.mk gb10; have GG10 := Aside0.mk HG10; clear gb10 gl10 HG10; obtain ⟨ce10, hcl10, hM10, hcc10, hfr10⟩ := Kd.R_elem HO199.out z24 (a1 : Int) p10 q10; obtain rfl := k24_openM hM10; have hx10_0 : w19.cell? ⟨go10, (a1 : Int).toNat * 2, none⟩ = some (.int .i64 ((rd_T24 y197 a1).f0)) := hcc10 0 _ rfl; have hx10_1 : w19.cell? ⟨go10, (a1 : Int).toNat * 2 + 1, none⟩ = some (.int .i64 ((rd_T24 y197 a1).f1)) := hcc10 1 _ rfl; have hf10_0 : w19.frozen? ⟨go10, (a1 : Int).toNat * 2, none⟩ = false := hfr10 0; have hf10_1 : w19.frozen? ⟨go10, (a1 : Int).toNat * 2 + 1, none⟩ = false := hfr10 1; clear hcl10 hcc10 hfr10 hM10; replace p10 := eq_true p10; replace q10 := eq_true q10; have HX21 := Aside0.mk (show Kd.R k24 24 w19 w.heap.size (fun _ => True) (.slice (some ⟨go10, 0, none⟩) y197.length co20) y197 from (by (with_reducible repeat (first | apply Kd.R_alloc | apply Kd.R_drewN | apply Kd.R_drew)); exact HO199.out)); obtain ⟨ce21, hcl21, hM21, hcc21, hfr21⟩ := Kd.R_elem HX21.out z24 (a1 : Int) (of_decide_eq_true (by first | (with_reducible assumption) | assumption)) (by have h_ : (a1 : Int) < ((y197.length : Int) : Int) := of_decide_eq_true (by first | (with_reducible assumption) | assumption); first | exact h_ | (have e_ := (Kd.R_reads' HO199.out).1; omega) | simpa using h_); obtain rfl := k24_openM hM21; have HP21 := Kd.R_seg HX21.out (a1 : Int) (of_decide_eq_true (by first | (with_reducible assumption) | assumption)) (by have h_ : (a1 : Int) < ((y197.length : Int) : Int) := of_decide_eq_true (by first | (with_reducible assumption) | assumption); first | exact h_ | (have e_ := (Kd.R_reads' HO199.out).1; omega) | simpa using h_) (seg := [.int .i64 ((rd_T24 l0 (ji3)).f0), .int .i64 ((rd_T24 l0 (ji3)).f1)]) (j := 0) hcl21 hcc21 (show 2 ≤ 2 from by decide) (x' := (⟨(rd_T24 l0 (ji3)).f0, (rd_T24 l0 (ji3)).f1⟩ : S24)) (k24_mkM _ _ _ (⟨(rd_T24 l0 (ji3)).f0, (rd_T24 l0 (ji3)).f1⟩ : S24) ) (fun _ hk => hk); have hx21_0 := hcc21 0 _ rfl; (try simp only [show (k24).sz = 2 from rfl, Nat.mul_one, Nat.add_zero] at hx21_0); have hf21_0 := hfr21 0; (try simp only [show (k24).sz = 2 from rfl, Nat.mul_one, Nat.add_zero] at hf21_0); have hx21_1 := hcc21 1 _ rfl; (try simp only [show (k24).sz = 2 from rfl, Nat.mul_one, Nat.add_zero] at hx21_1); have hf21_1 := hfr21 1; (try simp only [show (k24).sz = 2 from rfl, Nat.mul_one, Nat.add_zero] at hf21_1); clear hcl21 hcc21 hfr21 hM21) | ((with_reducible refine gate_store (t := 24) (p := 25) rfl ?_); refine store_event (t := 24) (p := 25) (v := ?vo_w22) (w1 := ((w19.setCell ⟨go10, (a1 : Int).toNat * 2, none⟩ (.int .i64 ((rd_T24 l0 (ji3)).f0))).setCell ⟨go10, (a1 : Int).toNat * 2 + 1, none⟩ (.int .i64 ((rd_T24 l0 (ji3)).f1)))) ?hg ?ho ?hn ?hr ?_; (case ho => rfl); (case hg => rfl); (case hn => rfl); (case hr => first | (go_simp; done) | (go_simp; rfl)); intro w22 hw; have hg : w19.grownBy w22 (some go10) := (by rw [hw]; exact HP21.2); have hp_ : Kd.R k24 24 w22 w.heap.size (fun _ => True) (.slice (some ⟨go10, 0, none⟩) y197.length co20) y201 := (by rw [hw, Ny201.out]; exact HP21.1); clear HP21; have n0_ := Aside0.mk (hp_); have n1_ := Aside0.mk ((by rw [hw]; exact below_set (below_set (HB.out) GB10.out) GB10.out : Below w.heap.size w w22)); clear HO199; clear HB; have HO199 := n0_; have HB := n1_; clear n0_ n1_; clear hg hw hp_; have p202 : 0 ≤ ((ji11) : Int) := of_decide_eq_true (by first | (with_reducible assumption) | assumption); have q202 : (ji11) < (l0.length : Int) := of_decide_eq_true (by first | (with_reducible assumption) | assumption); obtain ⟨ad202, e202, hx202_0, hx202_1⟩ := at_T24 HR0.out (ji11) p202 q202; obtain rfl : ad200 = ad202 := (by injection e202); replace hx202_0 := (HB.out.cell (World.block_lt_of_cell? w _ hx202_0)).trans hx202_0; replace hx202_1 := (HB.out.cell (World.block_lt_of_cell? w _ hx202_1)).trans hx202_1; replace p202 := eq_true p202; replace q202 := eq_true q202; have p17 : 0 ≤ ((ji14) : Int) := of_decide_eq_true (by first | (with_reducible assumption) | assumption); have q17 : ((ji14) : Int) < ((y197.length : Int) : Int) := of_decide_eq_true (by first | (with_reducible assumption) | assumption); obtain ⟨ce17, hcl17, hM17, hcc17, hfr17⟩ := Kd.R_elem HO199.out z24 ((ji14) : Int) p17 q17; obtain rfl := k24_openM hM17; have hx17_0 : w22.cell? ⟨go10, ((ji14) : Int).toNat * 2, none⟩ = some (.int .i64 ((rd_T24 y201 (ji14)).f0)) := hcc17 0 _ rfl; have hx17_1 : w22.cell? ⟨go10, ((ji14) : Int).toNat * 2 + 1, none⟩ = some (.int .i64 ((rd_T24 y201 (ji14)).f1)) := hcc17 1 _ rfl; have hf17_0 : w22.frozen? ⟨go10, ((ji14) : Int).toNat * 2, none⟩ = false := hfr17 0; have hf17_1 : w22.frozen? ⟨go10, ((ji14) : Int).toNat * 2 + 1, none⟩ = false := hfr17 1; clear hcl17 hcc17 hfr17 hM17; replace p17 := eq_true p17; replace q17 := eq_true q17; have HX23 := Aside0.mk (show Kd.R k24 24 w22 w.heap.size (fun _ => True) (.slice (some ⟨go10, 0, none⟩) y197.length co20) y201 from (by (with_reducible repeat (first | apply Kd.R_alloc | apply Kd.R_drewN | apply Kd.R_drew)); exact HO199.out)); obtain ⟨ce23, hcl23, hM23, hcc23, hfr23⟩ := Kd.R_elem HX23.out z24 ((ji14) : Int) (of_decide_eq_true (by first | (with_reducible assumption) | assumption)) (by have h_ : ((ji14) : Int) < ((y197.length : Int) : Int) := of_decide_eq_true (by first | (with_reducible assumption) | assumption); first | exact h_ | (have e_ := (Kd.R_reads' HO199.out).1; omega) | simpa using h_); obtain rfl := k24_openM hM23; have HP23 := Kd.R_seg HX23.out ((ji14) : Int) (of_decide_eq_true (by first | (with_reducible assumption) | assumption)) (by have h_ : ((ji14) : Int) < ((y197.length : Int) : Int) := of_decide_eq_true (by first | (with_reducible assumption) | assumption); first | exact h_ | (have e_ := (Kd.R_reads' HO199.out).1; omega) | simpa using h_) (seg := [.int .i64 ((rd_T24 l0 (ji11)).f0), .int .i64 ((rd_T24 l0 (ji11)).f1)]) (j := 0) hcl23 hcc23 (show 2 ≤ 2 from by decide) (x' := (⟨(rd_T24 l0 (ji11)).f0, (rd_T24 l0 (ji11)).f1⟩ : S24)) (k24_mkM _ _ _ (⟨(rd_T24 l0 (ji11)).f0, (rd_T24 l0 (ji11)).f1⟩ : S24) ) (fun _ hk => hk); have hx23_0 := hcc23 0 _ rfl; (try simp only [show (k24).sz = 2 from rfl, Nat.mul_one, Nat.add_zero] at hx23_0); have hf23_0 := hfr23 0; (try simp only [show (k24).sz = 2 from rfl, Nat.mul_one, Nat.add_zero] at hf23_0); have hx23_1 := hcc23 1 _ rfl; (try simp only [show (k24).sz = 2 from rfl, Nat.mul_one, Nat.add_zero] at hx23_1); have hf23_1 := hfr23 1; (try simp only [show (k24).sz = 2 from rfl, Nat.mul_one, Nat.add_zero] at hf23_1); clear hcl23 hcc23 hfr23 hM23) | ((with_reducible refine gate_store (t := 24) (p := 35) rfl ?_); refine store_event (t := 24) (p := 35) (v := ?vo_w24) (w1 := ((w22.setCell ⟨go10, ((ji14) : Int).toNat * 2, none⟩ (.int .i64 ((rd_T24 l0 (ji11)).f0))).setCell ⟨go10, ((ji14) : Int).toNat * 2 + 1, none⟩ (.int .i64 ((rd_T24 l0 (ji11)).f1)))) ?hg ?ho ?hn ?hr ?_; (case ho => rfl); (case hg => rfl); (case hn => rfl); (case hr => first | (go_simp; done) | (go_simp; rfl)); intro w24 hw; have hg : w22.grownBy w24 (some go10) := (by rw [hw]; exact HP23.2); have hp_ : Kd.R k24 24 w24 w.heap.size (fun _ => True) (.slice (some ⟨go10, 0, none⟩) y197.length co20) y203 := (by rw [hw, Ny203.out]; exact HP23.1); clear HP23; have n0_ := Aside0.mk (hp_); have n1_ := Aside0.mk ((by rw [hw]; exact below_set (below_set (HB.out) GB10.out) GB10.out : Below w.heap.size w w24)); clear HO199; clear HB; have HO199 := n0_; have HB := n1_; clear n0_ n1_; clear hg hw hp_))
           go_ret
           exact ⟨_, by first | rfl | (simp [errW_none, errW_some] <;> rfl) | (simp only [← hji3, ← hji11, ← hji14]; first | rfl | (simp [errW_none, errW_some] <;> rfl)) | (simp [*, errW_none, errW_some] <;> rfl), by (with_reducible repeat (first | apply Kd.R_alloc | apply Kd.R_drewN | apply Kd.R_drew)); exact HO199.out, by repeat (first | (with_reducible first | exact HB.out | apply below_alloc | apply pw_below_drewN | apply below_drew1) | exact HB.out)⟩
          ·rw [if_neg c16] at H
           exact absurd H (by simp)
         ·rw [if_neg c15] at H
          exact absurd H (by simp)
        ·rw [if_neg c13] at H
         exact absurd H (by simp)
       ·rw [if_neg c12] at H
        exact absurd H (by simp)
      ·rw [if_neg c9] at H
       exact absurd H (by simp)
     ·rw [if_neg c8] at H
      exact absurd H (by simp)
    ·rw [if_neg c7] at H
     have c7b0 : decide (a1 < (y197.length : Int)) = false := decide_eq_false c7
     clear c7
     obtain rfl := Option.some.inj H
     have q25 : ((ji3) : Int) ≤ ((l0.length : Int) : Int) := of_decide_eq_true (by first | (with_reducible assumption) | assumption)
     obtain ⟨i025, hi025, _, hsz25, _⟩ := info_parts info24
     have hroom25 : l0.length ≤ c0 := HC0.out
     have hC25 : Kd.C k24 _ A0 l0.length l0 := HR0.out
     have hcut25 := cut_to (P := Try.prog) 22 24 .i64 Try.underlying22 hi025 A0 l0.length c0 (ji3) (of_decide_eq_true (by first | (with_reducible assumption) | assumption)) q25 hroom25
     have hr25 := Kd.C_take (m := ((ji3) : Int).toNat) hC25 (by omega)
     have hy25 : y193.length = ((ji3) : Int).toNat := (by rw [Ny193.out, List.length_take]; omega)
     rw [← Ny193.out] at hr25
     rw [← hy25] at hcut25
     have HR196 := Aside0.mk hr25
     have HC196 := Aside0.mk (show y193.length ≤ c0 from by omega)
     clear hr25 hC25 hroom25 hi025 hsz25
     have KY25 := Aside0.mk hy25
     clear hy25
     replace q25 := eq_true q25
     go_enter Try.func58, Try.ntmps58
     go_wp2_with (first | ((with_reducible refine gate_builtin (b := .append) (xs := #[.tmp 6, .tmp 11]) rfl ?_); at_builtin; refine Kd.R_append_rows k24 (w0 := w) w.heap.size rfl (.tmp 6) (.tmp 11) 22 24 (.agg #[(.int .i64 0), (.int .i64 0)]) 16 rfl Try.underlying22 info24 rfl (by decide) (by omega) (.slice none 0 0) ([] : List (S24)) y193 _ _ _ (fun _ => True) (fun _ => False) rfl rfl ?aO ?aR (fun _ _ h => h) (fun _ h => h.elim) ?aF ?aB ?aS ?aL ?_; (case aR => repeat (first | exact HR196.out | (with_reducible refine Kd.C_alloc ?_ _) | (with_reducible refine Kd.C_drewN ?_ _) | (with_reducible refine Kd.C_drew ?_))); (case aB => exact (by repeat (first | (with_reducible first | exact HB.out | apply below_alloc | apply pw_below_drewN | apply below_drew1) | exact HB.out))); (case aF => exact (fun _ _ => trivial)); (case aO => exact ((Kd.R_nil _ _ _ _ (fun _ => True)))); (case aS => exact (below_size (by repeat (first | (with_reducible first | exact HB.out | apply below_alloc | apply pw_below_drewN | apply below_drew1) | exact HB.out)))); (case aL => have := LMc6.out; omega); intro v198 w26 ho hb hg hat; rw [← Ny197.out] at ho; have n0_ := Aside0.mk (hb); have n1_ := Aside0.mk (ho); clear HB; have HB := n0_; have HO199 := n1_; clear n0_ n1_; clear ho hb hg hat; obtain ⟨Ao27, co27, eo27⟩ := Kd.R_slice HO199.out; subst eo27))
     go_ret
     exact ⟨_, by first | rfl | (simp [errW_none, errW_some] <;> rfl) | (simp only [← hji3]; first | rfl | (simp [errW_none, errW_some] <;> rfl)) | (simp [*, errW_none, errW_some] <;> rfl), by (with_reducible repeat (first | apply Kd.R_alloc | apply Kd.R_drewN | apply Kd.R_drew)); exact HO199.out, by repeat (first | (with_reducible first | exact HB.out | apply below_alloc | apply pw_below_drewN | apply below_drew1) | exact HB.out)⟩
   ·rw [if_neg c6] at H
    exact absurd H (by simp)
  ·rw [if_neg c5] at H
   exact absurd H (by simp)
 ·rw [if_neg c4] at H
  exact absurd H (by simp)
end Go.Proofs.YtadhkfklkbdabaaR.G
end
