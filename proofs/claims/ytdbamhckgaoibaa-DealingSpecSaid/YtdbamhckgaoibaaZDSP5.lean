/- A part of the proof of DealingSpec: The calls of signatoryref13.Combine come to what their functions in Lean say.; A region that draws its order, in a round of a range over a function: walked as anywhere else.; linear.clear takes away from a row the multiple of another one.; What linear.reduce needs beside its walk: the marks of ranges over functions, rows of one's own, the order of the eliminations. -/
import Derived.Test.YtdbamhckgaoibaaZDSP4
import Derived.OrdersIn
import Derived.OwnWalkIn
import Derived.RangeFuncCalls
import Derived.Sort.LoopGhostIn
namespace Go.Proofs.Ytdbamhckgaoibaa.P
open Go.RowKit Go.Proofs.YtdbamhckgaoibaaW.PrintWords Go.Proofs.YtdbamhckgaoibaaW.PrintLast Go.Proofs.YtdbamhckgaoibaaW.PrintMore
attribute [local go_sem] max2_int min2_int max_two min_two max_three min_three max_four min_four
set_option linter.unusedVariables false
set_option linter.unusedSimpArgs false
mutual
def signatoryref13_Combine.l0 : Nat → List (List Int) → List Int → List (List Int) → Int → Option (List Int × Bool × Int)
 | 0, _, _, _, _ => none
 | k + 1, x0, x1, x8, x9 => if x9 < (x8.length : Int) then (if 0 ≤ x9 then (if x9 < (x1.length : Int) then (if (rd_L1 x8 x9).length < 17592186044416 then (signatoryref13_Combine.l0 k x0 x1 (x8.set (x9 : Int).toNat ((rd_L1 x8 x9) ++ [rd x1 x9])) (wrap64 (x9 + 1))) else (none)) else (none)) else (none)) else ((signatoryref13_RedS.f x8 (x0.length : Int)).bind fun bt241 => (signatoryref13_Combine.l1 k x0 bt241.1 bt241.2 (bt241.2.length : Int)))
def signatoryref13_Combine.l1 : Nat → List (List Int) → List (List Int) → List Int → Int → Option (List Int × Bool × Int)
 | 0, _, _, _, _ => none
 | k + 1, x0, x8, x10, x11 => if x11 < (x8.length : Int) then (if 0 ≤ x11 then (if 0 ≤ (x0.length : Int) then (if (x0.length : Int) < ((rd_L1 x8 x11).length : Int) then (if (rd (rd_L1 x8 x11) (x0.length : Int)) = 0 then (signatoryref13_Combine.l1 k x0 x8 x10 (wrap64 (x11 + 1))) else (some (([] : List Int), false, 0))) else (none)) else (none)) else (none)) else (if 0 ≤ (x0.length : Int) then (if ((x0.length : Int) : Int).toNat ≤ 35184372088832 then (signatoryref13_Combine.l2 k x0 x8 x10 (List.replicate ((x0.length : Int) : Int).toNat 0) 0) else (none)) else (none))
def signatoryref13_Combine.l2 : Nat → List (List Int) → List (List Int) → List Int → List Int → Int → Option (List Int × Bool × Int)
 | 0, _, _, _, _, _ => none
 | k + 1, x0, x8, x10, x12, x13 => if x13 < (x10.length : Int) then (if 0 ≤ x13 then (if x13 < (x8.length : Int) then (if 0 ≤ (x0.length : Int) then (if (x0.length : Int) < ((rd_L1 x8 x13).length : Int) then (if 0 ≤ (rd x10 x13) then (if (rd x10 x13) < (x12.length : Int) then (signatoryref13_Combine.l2 k x0 x8 x10 (x12.set ((rd x10 x13) : Int).toNat (rd (rd_L1 x8 x13) (x0.length : Int))) (wrap64 (x13 + 1))) else (none)) else (none)) else (none)) else (none)) else (none)) else (none)) else (some (x12, true, 0))
end
def signatoryref13_Combine.f (k : Nat) (l0 : List (List Int)) (l1 : List Int) : Option (List Int × Bool × Int) := (signatoryref13_Error.f k l0 l1).bind fun t231 => (if t231 = 0 then ((signatoryref13_Turned.f k l0 (l1.length : Int)).bind fun t232 => (signatoryref13_Combine.l0 k l0 l1 t232 0)) else (some (([] : List Int), false, t231)))
def signatoryref13_Combine.T8 : Bool × List (List Nat × List Nat) := (true, [([], []), ([], []), ([], []), ([], []), ([2, 3], [2, 3]), ([4], [4]), ([], []), ([], []), ([6, 7], [6, 7]), ([8], [8]), ([9], [9]), ([5, 10], [5, 10]), ([0, 1, 0, 1, 2, 3, 4, 5, 6, 7, 8, 9, 10, 11], [0, 1]), ([12, 11, 11, 0, 1, 2, 3, 4, 5, 6, 7, 8, 9, 10, 11], [11, 12])])
def signatoryref13_Combine.B8 : List Nat := [0, 0, 0, 0, 12, 28, 0, 0, 192, 448, 960, 2044, 4095, 8191]
theorem signatoryref13_Combine.tab8 : rtab .any (opsOf Try.f98 8) = signatoryref13_Combine.T8 := by kernel_rfl
theorem signatoryref13_Combine.bits8 : waitsOk signatoryref13_Combine.T8.2 signatoryref13_Combine.B8 = true := by kernel_rfl
def signatoryref13_Combine.T19 : Bool × List (List Nat × List Nat) := (true, [([], []), ([], []), ([], []), ([1, 2], [1, 2]), ([3], [3]), ([], []), ([], []), ([5, 6], [5, 6]), ([7], [7]), ([], []), ([9], [9]), ([8, 10], [8, 10]), ([11], [11]), ([0, 4, 0, 1, 2, 3, 4, 5, 6, 7, 8, 9, 10, 11, 12], [0, 4]), ([13, 12, 0, 1, 2, 3, 4, 5, 6, 7, 8, 9, 10, 11, 12], [12, 13])])
def signatoryref13_Combine.B19 : List Nat := [0, 0, 0, 6, 14, 0, 0, 96, 224, 0, 512, 2016, 4064, 8191, 16383]
theorem signatoryref13_Combine.tab19 : rtab .any (opsOf Try.f98 19) = signatoryref13_Combine.T19 := by kernel_rfl
theorem signatoryref13_Combine.bits19 : waitsOk signatoryref13_Combine.T19.2 signatoryref13_Combine.B19 = true := by kernel_rfl
set_option maxHeartbeats 8000000 in
set_option maxRecDepth 100000 in
theorem signatoryref13_Combine.calls (k : Nat) (A0 : Option Addr) (c0 : Nat) (l0 : List (List Int)) (A1 : Option Addr) (c1 : Nat) (l1 : List Int) (r1 : List Int) (r2 : Bool) (r3 : Int) (w : World) (hr0 : Kd.C (Kd.slice 3 (Kd.int .i64)) w A0 l0.length l0) (hc0 : l0.length ≤ c0) (hr1 : Kd.C (Kd.int .i64) w A1 l1.length l1) (hc1 : l1.length ≤ c1) (h : signatoryref13_Combine.f k l0 l1 = some (r1, r2, r3)) :
  Calls Try.prog 98 #[.slice A0 l0.length c0, .slice A1 l1.length c1] w fun e w' => ∃ v0_ : Value, e = .returned (.tuple #[v0_, .bool r2, .int .i64 r3]) ∧ Kd.R (Kd.int .i64) 3 w' w.heap.size (fun _ => True) v0_ r1 ∧ Below w.heap.size w w' := by
 have HR0 := Aside0.mk hr0; have HC0 := Aside0.mk hc0; clear hr0 hc0; have HR1 := Aside0.mk hr1; have HC1 := Aside0.mk hc1; clear hr1 hc1; have HB := Aside0.mk (Below.refl w.heap.size w); have H : ((signatoryref13_Error.f k l0 l1).bind fun t231 => (if t231 = 0 then ((signatoryref13_Turned.f k l0 (l1.length : Int)).bind fun t232 => (signatoryref13_Combine.l0 k l0 l1 t232 0)) else (some (([] : List Int), false, t231)))) = some (r1, r2, r3) := h; clear h; replace H := Option.bind_eq_some_iff.mp H; obtain ⟨t231, A30, H⟩ := H; replace H : (if t231 = 0 then ((signatoryref13_Turned.f k l0 (l1.length : Int)).bind fun t232 => (signatoryref13_Combine.l0 k l0 l1 t232 0)) else (some (([] : List Int), false, t231))) = some (r1, r2, r3) := H; have A3 := Aside0.mk A30; clear A30
 by_cases c4 : t231 = 0
 ·rw [if_pos c4] at H
  have c4b0 : (t231 == 0) = true := beq_iff_eq.mpr c4; have c4b1 : (t231 != 0) = false := bne_eq_false_iff_eq.mpr c4; clear c4; replace H := Option.bind_eq_some_iff.mp H; obtain ⟨t232, A50, H⟩ := H; replace H : (signatoryref13_Combine.l0 k l0 l1 t232 0) = some (r1, r2, r3) := H; have A5 := Aside0.mk A50; clear A50; have H' := Aside0.mk H; clear H
  go_enter Try.func98, Try.ntmps98
  go_wp2_with (first | ((with_reducible refine gate_callee (f := 172) rfl ?_); refine goesL_ (some 16) rfl rfl Try.func172 (by kernel_rfl) rfl #[.slice A0 l0.length c0, .slice A1 l1.length c1] rfl mp_ ?_; (with_reducible refine (signatoryref13_Error.calls k _ _ l0 _ _ l1 t231 _ ?side1 ?side2 ?side3 ?side4 A3.out).mono ?_); (case side1 => exact cb_ HR0.out); (case side2 => exact HC0.out); (case side3 => exact cb_ HR1.out); (case side4 => exact HC1.out); rintro e w' ⟨rfl, ⟨nd, rfl⟩⟩; refine ⟨_, rfl, ?_⟩) | ((with_reducible refine gate_callee (f := 173) rfl ?_); refine goesL_ (some 23) rfl rfl Try.func173 (by kernel_rfl) rfl #[.slice A0 l0.length c0, .int .i64 (l1.length : Int)] rfl mp_ ?_; (with_reducible refine (signatoryref13_Turned.calls k _ _ l0 (l1.length : Int) t232 _ ?side1 ?side2 A5.out).mono ?_); (case side1 => exact cb_ HR0.out); (case side2 => exact HC0.out); rintro e w6 ⟨v233, rfl, ho0, hb⟩; refine ⟨_, rfl, ?_⟩; have n0_ := Aside0.mk (Kd.S_lower ho0 (below_size hb_)); have n1_ := Aside0.mk (below_step hb_ hb); clear HB; have HO234 := n0_; have HB := n1_; clear n0_ n1_; (try clear hb); (try clear hb2); (try clear hk); (try clear hi); (try clear ho0)))
  go_loopg [9] k (fun kq v9 w' => ∃ (x8_1 : List (List Int)) (x9_1 : Int), v9 = .int .i64 x9_1 ∧ Aside0 (signatoryref13_Combine.l0 kq l0 l1 x8_1 x9_1 = some (r1, r2, r3)) ∧ Aside0 (kq ≤ k) ∧ Aside0 (Kd.S (Kd.slice 3 (Kd.int .i64)) 23 w' w.heap.size (fun _ => True) v233 x8_1) ∧ Aside0 (Below w.heap.size w w'))
  case atStart => exact ⟨(t232), (0), rf_, H', ⟨Nat.le_refl _⟩, ⟨rs_ HO234.out⟩, ⟨hb_⟩⟩
  case round =>
   clear H'; (try clear c1); (try clear p2); (try clear c4); (try clear c4b0); (try clear c4b1); obtain ⟨x8_1, x9_1, rfl, HA, HK1, HO_8, HB⟩ := hrel
   cases gk with
   | zero => exact absurd HA.out (by simp [signatoryref13_Combine.l0])
   | succ k1 =>
    have H := HA.out; clear HA; simp only [signatoryref13_Combine.l0] at H
    by_cases c7 : x9_1 < (x8_1.length : Int)
    ·rw [if_pos c7] at H
     have c7b0 : decide (x9_1 < (x8_1.length : Int)) = true := decide_eq_true c7; clear c7
     by_cases c8 : 0 ≤ x9_1
     ·rw [if_pos c8] at H
      have c8b0 : decide (0 ≤ x9_1) = true := decide_eq_true c8; clear c8
      by_cases c9 : x9_1 < (l1.length : Int)
      ·rw [if_pos c9] at H
       have c9b0 : decide (x9_1 < (l1.length : Int)) = true := decide_eq_true c9; clear c9
       by_cases c10 : (rd_L1 x8_1 x9_1).length < 17592186044416
       ·rw [if_pos c10] at H
        have LMc10 := Aside0.mk c10; clear c10
        obtain ⟨y237, hy237⟩ : ∃ y_ : List Int, y_ = ((rd_L1 x8_1 x9_1) ++ [rd l1 x9_1]) := ⟨_, rfl⟩
        replace H : (signatoryref13_Combine.l0 k1 l0 l1 (x8_1.set (x9_1 : Int).toNat y237) (wrap64 (x9_1 + 1))) = some (r1, r2, r3) := by first | (rw [hy237]; with_reducible exact H) | (have H2_ := (Option.bind_some _ _).symm.trans H; rw [hy237]; with_reducible exact H2_) | (have H2_ := (Option.bind_some _ _).symm.trans H; with_reducible exact H2_) | with_reducible exact H | (rw [hy237]; exact H) | exact H
        have Ny237 := Aside0.mk hy237; clear hy237
        obtain ⟨y240, hy240⟩ : ∃ y_ : List (List Int), y_ = (x8_1.set (x9_1 : Int).toNat y237) := ⟨_, rfl⟩
        replace H : (signatoryref13_Combine.l0 k1 l0 l1 y240 (wrap64 (x9_1 + 1))) = some (r1, r2, r3) := by first | (rw [hy240]; with_reducible exact H) | (have H2_ := (Option.bind_some _ _).symm.trans H; rw [hy240]; with_reducible exact H2_) | (have H2_ := (Option.bind_some _ _).symm.trans H; with_reducible exact H2_) | with_reducible exact H | (rw [hy240]; exact H) | exact H
        have Ny240 := Aside0.mk hy240; clear hy240; have H' := Aside0.mk H; clear H; obtain ⟨Ao12, co12, eo12⟩ := Kd.S_slice HO_8.out; subst eo12
        try go_wp2
        have n0_ := Aside0.mk (Kd.S_drew HO_8.out); have n1_ := Aside0.mk (below_drew1 HB.out); clear HO_8; clear HB; have HO_8 := n0_; have HB := n1_; clear n0_ n1_; have p235 : 0 ≤ (x9_1 : Int) := of_decide_eq_true as_; have q235 : x9_1 < (x8_1.length : Int) := of_decide_eq_true as_; obtain ⟨ad235, A235_0, c235_0, e235, hx235_0, hl235_0, hi235_0⟩ := at_L1 (Kd.S_reads' HO_8.out).2.2 x9_1 p235 q235; cases e235; obtain ⟨ce235, hce235, hMe235, hcc235⟩ := Kd.S_get HO_8.out [] x9_1 p235 (by first | exact q235 | exact of_decide_eq_true as_ | (have e_ := (Kd.S_reads' HO_8.out).1; omega)); obtain ⟨ve235_0, rfl, ge235_0⟩ := hMe235; have hv235_0 := hcc235 0 _ rfl; rw [Nat.add_zero, show ((Kd.slice 3 (Kd.int .i64))).sz = 1 from rfl, Nat.mul_one] at hv235_0; replace hv235_0 := Option.some.inj (hv235_0.symm.trans hx235_0); rw [hv235_0] at ge235_0; have HL235_0 := Aside0.mk (show Kd.R (Kd.int .i64) 3 _ _ _ _ (rd_L1 x8_1 x9_1) from ge235_0); clear hv235_0 ge235_0; have HX235_0 := Aside0.mk hx235_0; clear hcc235 hce235; have HR235_0 := Aside0.mk hi235_0; have HC235_0 := Aside0.mk hl235_0; clear hi235_0 hl235_0; replace p235 := eq_true p235; replace q235 := eq_true q235; have p236 : 0 ≤ (x9_1 : Int) := of_decide_eq_true as_; have q236 : x9_1 < (l1.length : Int) := of_decide_eq_true as_; obtain ⟨ad236, e236, hx236_0⟩ := Kd.at_int HR1.out x9_1 p236 q236; have hw236_0 := hx236_0; cases e236; replace hx236_0 := (HB.out.cell (World.block_lt_of_cell? w _ hx236_0)).trans hx236_0; replace p236 := eq_true p236; replace q236 := eq_true q236; obtain ⟨go14, co14, eo14, gb14, gl14, cl14, HG14⟩ := Kd.S_form HO_8.out (by have h_ : (x9_1 : Int) < ((x8_1.length : Int) : Int) := of_decide_eq_true as_; have h2_ : 0 ≤ (x9_1 : Int) := (of_decide_eq_true as_); omega)
        (first | cases eo14 | (injection eo14 with ea_ en_ ec_; (first | subst ea_ | (injection ea_ with ea_; subst ea_)); subst ec_; clear en_))
        have GB14 := Aside0.mk gb14; have GG14 := Aside0.mk HG14; clear gb14 gl14 HG14
        (first | simp only [add_plain] at hx235_0 | skip)
        obtain ⟨oki14, ce14, hcl14, hM14, hcc14, _, _, hH14⟩ := Kd.S_elem HO_8.out [] (x9_1 : Int) (of_decide_eq_true as_) (by have h_ : (x9_1 : Int) < ((x8_1.length : Int) : Int) := of_decide_eq_true as_; first | exact h_ | (have e_ := (Kd.S_reads' HO_8.out).1; omega) | simpa using h_); obtain ⟨ve14_0, rfl, ge14_0⟩ := hM14; have hv14 := hcc14 0 _ rfl; have hX14 := HX235_0.out; (try simp only [add_plain] at hX14); (try simp only [Nat.add_zero] at hv14); (try rw [show ((Kd.slice 3 (Kd.int .i64))).sz = 1 from rfl, Nat.mul_one] at hv14); replace hv14 := Option.some.inj (hv14.symm.trans hX14); subst hv14; clear hX14 hcc14 hcl14; have UU14 := Aside0.mk (show Kd.R (Kd.int .i64) 3 _ w.heap.size oki14 (.slice A235_0 (rd_L1 x8_1 x9_1).length c235_0) (rd_L1 x8_1 x9_1) from ge14_0); have HH14 := Aside0.mk hH14; have HN14 := Aside0.mk (Kd.S_reads' HO_8.out).1; clear hH14 ge14_0
        refine start_ (n := 14) (S := fun w' => w'.cell? ⟨go14, (x9_1).toNat, none⟩ = some (.slice A235_0 (rd_L1 x8_1 x9_1).length c235_0) ∧ w'.cell? (ad236.add (x9_1).toNat) = some (.int .i64 (rd l1 x9_1))) (ds := [13]) #[false, false, false, false, false, false, false, false, false, false, false, false, false, false] (by kernel_rfl) rfl rfl ⟨hx235_0, ((HB.out.cell (World.block_lt_of_cell? w _ hw236_0)).trans hw236_0)⟩ (fun hHeld => ?_); refine with_tabW signatoryref13_Combine.tab8 signatoryref13_Combine.bits8 (fun HT_ HW_ => ?_)
        generalize wr.drew = w13 at HO_8 HB GG14 HH14 HL235_0 HR235_0 HX235_0 UU14 hx235_0 hx236_0 hHeld ⊢; refine pure_ (i := 0) (N := some 30) (v := ?_) (a' := ?_) #[true, false, false, false, false, false, false, false, false, false, false, false, false, false] rfl rfl (any_of HT_.out (by kernel_rfl)) (fun _ _ _ h => h) (Or.inl ⟨by rfl, ?_⟩) ?_ ?_; rotate_left
        ·intro w'
         go_simp
         with_reducible rfl
        rotate_left
        ·simp only [Act.put, List.setIfInBounds_toArray, List.set_cons_zero, List.set_cons_succ, i64_w, i32_w]
         rfl
        refine pure_ (i := 1) (N := some 31) (v := ?_) (a' := ?_) #[true, true, false, false, false, false, false, false, false, false, false, false, false, false] rfl rfl (any_of HT_.out (by kernel_rfl)) (fun _ _ _ h => h) (Or.inl ⟨by rfl, ?_⟩) ?_ ?_; rotate_left
        ·intro w'
         go_simp
         with_reducible rfl
        rotate_left
        ·simp only [Act.put, List.setIfInBounds_toArray, List.set_cons_zero, List.set_cons_succ, i64_w, i32_w]
         rfl
        refine pure_ (i := 2) (N := some 32) (v := ?_) (a' := ?_) #[true, true, true, false, false, false, false, false, false, false, false, false, false, false] rfl rfl (any_of HT_.out (by kernel_rfl)) (fun _ _ _ h => h) (Or.inl ⟨by rfl, ?_⟩) ?_ ?_; rotate_left
        ·intro w'
         go_simp
         with_reducible rfl
        rotate_left
        ·simp only [Act.put, List.setIfInBounds_toArray, List.set_cons_zero, List.set_cons_succ, i64_w, i32_w]
         rfl
        refine pure_ (i := 3) (N := some 33) (v := ?_) (a' := ?_) #[true, true, true, true, false, false, false, false, false, false, false, false, false, false] rfl rfl (any_of HT_.out (by kernel_rfl)) (fun _ _ _ h => h) (Or.inl ⟨by rfl, ?_⟩) ?_ ?_; rotate_left
        ·intro w'
         go_simp
         with_reducible rfl
        rotate_left
        ·simp only [Act.put, List.setIfInBounds_toArray, List.set_cons_zero, List.set_cons_succ, i64_w, i32_w]
         rfl
        refine pure_ (i := 4) (N := some 34) (v := ?_) (a' := ?_) #[true, true, true, true, true, false, false, false, false, false, false, false, false, false] rfl rfl (any_of HT_.out (by kernel_rfl)) (fun _ _ _ h => h) (Or.inl ⟨by rfl, ?_⟩) ?_ ?_; rotate_left
        ·intro w'
         go_simp
         with_reducible rfl
        rotate_left
        ·simp only [Act.put, List.setIfInBounds_toArray, List.set_cons_zero, List.set_cons_succ, i64_w, i32_w]
         rfl
        refine pure_ (i := 6) (N := some 36) (v := ?_) (a' := ?_) #[true, true, true, true, true, false, true, false, false, false, false, false, false, false] rfl rfl (any_of HT_.out (by kernel_rfl)) (fun _ _ _ h => h) (Or.inl ⟨by rfl, ?_⟩) ?_ ?_; rotate_left
        ·intro w'
         go_simp
         with_reducible rfl
        rotate_left
        ·simp only [Act.put, List.setIfInBounds_toArray, List.set_cons_zero, List.set_cons_succ, i64_w, i32_w]
         rfl
        refine pure_ (i := 7) (N := some 37) (v := ?_) (a' := ?_) #[true, true, true, true, true, false, true, true, false, false, false, false, false, false] rfl rfl (any_of HT_.out (by kernel_rfl)) (fun _ _ _ h => h) (Or.inl ⟨by rfl, ?_⟩) ?_ ?_; rotate_left
        ·intro w'
         go_simp
         with_reducible rfl
        rotate_left
        ·simp only [Act.put, List.setIfInBounds_toArray, List.set_cons_zero, List.set_cons_succ, i64_w, i32_w]
         rfl
        refine pure_ (i := 8) (N := some 38) (v := ?_) (a' := ?_) #[true, true, true, true, true, false, true, true, true, false, false, false, false, false] rfl rfl (any_of HT_.out (by kernel_rfl)) (fun _ _ _ h => h) (Or.inl ⟨by rfl, ?_⟩) ?_ ?_; rotate_left
        ·intro w'
         go_simp
         with_reducible rfl
        rotate_left
        ·simp only [Act.put, List.setIfInBounds_toArray, List.set_cons_zero, List.set_cons_succ, i64_w, i32_w]
         rfl
        refine take_ (i := 5) (N := some 35) (v := ?_) (a' := ?_) #[true, true, true, true, true, true, true, true, true, false, false, false, false, false] rfl rfl (take_ofW HT_.out HW_.out (by kernel_rfl)) (fun _ _ _ h => h) (Or.inl ⟨by rfl, ?_⟩) hHeld ?_ ?_; rotate_left
        ·rintro w' ⟨s0, s1⟩
         go_simp
         with_reducible rfl
        rotate_left
        ·simp only [Act.put, List.setIfInBounds_toArray, List.set_cons_zero, List.set_cons_succ, i64_w, i32_w]
         rfl
        refine take_ (i := 9) (N := some 39) (v := ?_) (a' := ?_) #[true, true, true, true, true, true, true, true, true, true, false, false, false, false] rfl rfl (take_ofW HT_.out HW_.out (by kernel_rfl)) (fun _ _ _ h => h) (Or.inl ⟨by rfl, ?_⟩) hHeld ?_ ?_; rotate_left
        ·rintro w' ⟨s0, s1⟩
         go_simp
         with_reducible rfl
        rotate_left
        ·simp only [Act.put, List.setIfInBounds_toArray, List.set_cons_zero, List.set_cons_succ, i64_w, i32_w]
         rfl
        refine one_ (i := 10) (N := some 40) #[true, true, true, true, true, true, true, true, true, true, true, false, false, false] rfl rfl (one_of HT_.out (by kernel_rfl)) (by decide) (fun K hK => ?_); refine value_ (w1 := ?_) (v := ?_) (by rfl) rfl ?_ ?_; rotate_left 2
        ·go_simp
         constructor
         ·rfl
         ·rfl
        refine hK.out _ _ ⟨(World.cell?_alloc_lt _ _ _ (World.block_lt_of_cell? _ _ (hHeld.1))).trans (hHeld.1), (World.cell?_alloc_lt _ _ _ (World.block_lt_of_cell? _ _ (((HB.out.cell (World.block_lt_of_cell? w _ hw236_0)).trans hw236_0)))).trans (((HB.out.cell (World.block_lt_of_cell? w _ hw236_0)).trans hw236_0))⟩ (fun hHeld => ?_); clear hK K; refine norm_ (a' := ?_) ?_ ?_; rotate_left
        ·show Act.put _ (some 40) _ = _
         simp only [Act.put, List.setIfInBounds_toArray, List.set_cons_zero, List.set_cons_succ, i64_w, i32_w]; rfl
        refine one_ (i := 11) (N := some 41) #[true, true, true, true, true, true, true, true, true, true, true, true, false, false] rfl rfl (one_of HT_.out (by kernel_rfl)) (by decide) (fun K hK => ?_); refine Kd.R_append_step (Kd.int .i64) (w0 := w) w.heap.size (by rfl) (.tmp 35) (.tmp 40) 23 3 (.int .i64 0) 8 rfl Try.underlying23 info3 rfl (by decide) (by omega) (.slice A235_0 (rd_L1 x8_1 x9_1).length c235_0) (rd_L1 x8_1 x9_1) (rd l1 x9_1) [.int .i64 (rd l1 x9_1)] (fun k_ => oki14 k_ ∨ ((fun _ => True)) k_ ∧ w13.heap.size ≤ k_) (fun _ => False) rfl rfl ?aP (fun _ hk => hk.elim) ?aF ?aO ?aB ?aS ?aL ?_
        (case aP => exact rfl)
        (case aB => exact hb_)
        (case aF => exact (fun k_ hk => .inr ⟨trivial, hk⟩))
        (case aO => exact (by (with_reducible repeat (first | apply Kd.R_alloc | apply Kd.R_drewN | apply Kd.R_drew)); exact Kd.R_mono UU14.out (fun _ hk => .inl hk)))
        (case aS => exact (below_size hb_))
        (case aL => have := LMc10.out; omega)
        intro v238 w15 ho hb hg hat
        (first | have HS0_ := cell_grown hg (hHeld.1) (by first | (rw [add_block]; exact (fun e_ => ((HL235_0.out.1 _ e_.symm).2) rfl)) | (show some (Addr.add _ _).block ≠ _; rw [add_block]; exact (fun e_ => ((HL235_0.out.1 _ e_.symm).2) rfl)) | exact (fun e_ => ((HL235_0.out.1 _ e_.symm).2) rfl)) | have HS0_ := cell_grown hg (cell_unalloc (hHeld.1) (by first | (rw [add_block]; exact Kd.S_lt HO_8.out _ rfl) | (show (Addr.add _ _).block < _; rw [add_block]; exact Kd.S_lt HO_8.out _ rfl) | exact Kd.S_lt HO_8.out _ rfl)) (by first | (rw [add_block]; exact (fun e_ => ((HL235_0.out.1 _ e_.symm).2) rfl)) | (show some (Addr.add _ _).block ≠ _; rw [add_block]; exact (fun e_ => ((HL235_0.out.1 _ e_.symm).2) rfl)) | exact (fun e_ => ((HL235_0.out.1 _ e_.symm).2) rfl)))
        rw [← Ny237.out] at ho; have n0_ := Aside0.mk (hb); have n1_ := Aside0.mk (Kd.H_grown (Kd.H_widen (by repeat (first | exact HH14.out | refine Kd.H_alloc ?_ _ | refine Kd.H_drewN ?_ _ | refine Kd.H_drew ?_))) hg (fun k_ e_ => .inl (UU14.out.1 k_ e_))); have n2_ := Aside0.mk (ho); clear HB; clear HH14; clear HO_8; clear UU14; clear HL235_0; have HB := n0_; have HH14 := n1_; have HO239 := n2_; clear n0_ n1_ n2_; clear ho hb hg hat; have p11 : 0 ≤ (x9_1 : Int) := of_decide_eq_true as_; have q11 : (x9_1 : Int) < ((x8_1.length : Int) : Int) := of_decide_eq_true as_; replace p11 := eq_true p11; replace q11 := eq_true q11; obtain ⟨Ao18, co18, eo18⟩ := Kd.R_slice HO239.out
        (first | subst eo18 | (injection eo18 with f1_ f2_ f3_; have f4_ := f1_.symm; have f5_ := f3_.symm; clear f1_ f2_ f3_; subst f4_; subst f5_))
        obtain ⟨_, _, hraw16, _, _, hcc16, _⟩ := Kd.H_raw HH14.out (of_decide_eq_true as_) (by have h_ : (x9_1 : Int) < ((x8_1.length : Int) : Int) := of_decide_eq_true as_; first | exact h_ | (have e_ := (HN14.out); omega) | simpa using h_); obtain ⟨_, hfr16⟩ := Kd.H_at HH14.out (of_decide_eq_true as_) (by have h_ : (x9_1 : Int) < ((x8_1.length : Int) : Int) := of_decide_eq_true as_; first | exact h_ | (have e_ := (HN14.out); omega) | simpa using h_); have hx16_0 := hcc16 0 _ rfl; have hf16_0 := hfr16 0; (try simp only [Nat.add_zero] at hx16_0 hf16_0); (try rw [show ((Kd.slice 3 (Kd.int .i64))).sz = 1 from rfl, Nat.mul_one] at hx16_0); (try rw [show ((Kd.slice 3 (Kd.int .i64))).sz = 1 from rfl, Nat.mul_one] at hf16_0); have HP16 := Kd.S_seg0 HH14.out (of_decide_eq_true as_) (by have h_ : (x9_1 : Int) < ((x8_1.length : Int) : Int) := of_decide_eq_true as_; first | exact h_ | (have e_ := (HN14.out); omega) | simpa using h_) (seg := [.slice Ao18 y237.length co18]) (j := 0) (show 1 ≤ 1 from by decide) (x' := y237) (Kd.M_row HO239.out) (fun _ hk => hk); (try simp only [show ((Kd.slice 3 (Kd.int .i64))).sz = 1 from rfl, Nat.mul_one, Nat.add_zero] at HP16); clear hcc16 hfr16; have HS16 := HP16.1; rw [← Ny240.out] at HS16; have HQ16 := Aside0.mk HS16; obtain ⟨_, hgg16⟩ := Kd.R_typed hraw16 go14 rfl; have GG16_ := Aside0.mk hgg16; clear HP16 HS16 hgg16; refine hK.out _ _ ⟨HS0_, ((HB.out.cell (World.block_lt_of_cell? w _ hw236_0)).trans hw236_0)⟩ (fun hHeld => ?_); clear hK K; refine norm_ (a' := ?_) ?_ ?_; rotate_left
        ·show Act.put _ (some 41) _ = _
         simp only [Act.put, List.setIfInBounds_toArray, List.set_cons_zero, List.set_cons_succ, i64_w, i32_w]; rfl
        refine pure_ (i := 12) (N := some 42) (v := ?_) (a' := ?_) #[true, true, true, true, true, true, true, true, true, true, true, true, true, false] rfl rfl (any_of HT_.out (by kernel_rfl)) (fun _ _ _ h => h) (Or.inl ⟨by rfl, ?_⟩) ?_ ?_; rotate_left
        ·intro w'
         go_simp
         with_reducible rfl
        rotate_left
        ·simp only [Act.put, List.setIfInBounds_toArray, List.set_cons_zero, List.set_cons_succ, i64_w, i32_w]
         rfl
        refine last_ (i := 13) (N := none) #[true, true, true, true, true, true, true, true, true, true, true, true, true, true] rfl rfl (one_of HT_.out (by kernel_rfl)) (by decide) (fun K hK => ?_); refine skip_ (w1 := ?_) (by rfl) rfl ?_ ?_; rotate_left
        ·go_simp
         rfl
        refine hK.out _ _ ?_; clear hK K; refine done_ (done_of HT_.out (by kernel_rfl)) ?_
        try go_wp2
        go_roundg k1
        case measure => have := HK1.out; omega
        case rel => exact ⟨(y240), (wrap64 (x9_1 + 1)), rf_, H', ⟨by have := HK1.out; omega⟩, ⟨rs_ HQ16.out⟩, ⟨by repeat (first | (with_reducible first | exact HB.out | apply below_alloc | apply pw_below_drewN | apply below_drew1 | refine below_set ?_ GB14.out) | exact HB.out)⟩⟩
       ·rw [if_neg c10] at H
        exact absurd H (by simp)
      ·rw [if_neg c9] at H
       exact absurd H (by simp)
     ·rw [if_neg c8] at H
      exact absurd H (by simp)
    ·rw [if_neg c7] at H
     have c7b0 : decide (x9_1 < (x8_1.length : Int)) = false := decide_eq_false c7; clear c7; replace H := Option.bind_eq_some_iff.mp H; obtain ⟨⟨t241, t242⟩, A190, H⟩ := H; replace H : (signatoryref13_Combine.l1 k1 l0 t241 t242 (t242.length : Int)) = some (r1, r2, r3) := H; have A19 := Aside0.mk A190; clear A190; have H' := Aside0.mk H; clear H; obtain ⟨Ao20, co20, eo20⟩ := Kd.S_slice HO_8.out; subst eo20; go_wp2_with (first | ((with_reducible refine gate_callee (f := 174) rfl ?_); refine goesL_ (some 47) rfl rfl Try.func174 (by kernel_rfl) rfl #[.slice Ao20 x8_1.length co20, .int .i64 (l0.length : Int)] rfl mp_ ?_; (with_reducible refine (signatoryref13_RedS.calls _ _ x8_1 (l0.length : Int) t241 t242 _ ?side1 ?side2 A19.out).mono ?_); (case side1 => repeat (first | exact (Kd.S_reads' HO_8.out).2.2 | (with_reducible refine Kd.C_alloc ?_ _) | (with_reducible refine Kd.C_drewN ?_ _) | (with_reducible refine Kd.C_drew ?_))); (case side2 => exact (Kd.S_reads' HO_8.out).2.1); rintro e w21 ⟨v243, v245, rfl, ho0, ho1, hb⟩; refine ⟨_, rfl, ?_⟩; have n0_ := Aside0.mk (Kd.S_mono (Kd.S_told (Kd.S_told (Kd.S_old (rs_ HO_8.out) hb) (Kd.N_base ho0)) (Kd.R_base ho1)) (fun _ h_ => h_.1)); have n1_ := Aside0.mk (Kd.N_lower ho0 (below_size hb_)); have n2_ := Aside0.mk (Kd.R_lower ho1 (below_size hb_)); have n3_ := Aside0.mk (below_step hb_ hb); clear HO_8; clear HB; have HO_8 := n0_; have HO244 := n1_; have HO246 := n2_; have HB := n3_; clear n0_ n1_ n2_ n3_; (try clear hb); (try clear hb2); (try clear hk); (try clear hi); (try clear ho0); (try clear ho1); obtain ⟨Ao22, co22, eo22⟩ := Kd.R_slice HO246.out; subst eo22))
     go_loopg [11] k1 (fun kq v11 w' => ∃ (x11_2 : Int), v11 = .int .i64 x11_2 ∧ Aside0 (signatoryref13_Combine.l1 kq l0 t241 t242 x11_2 = some (r1, r2, r3)) ∧ Aside0 (kq ≤ k1) ∧ Aside0 (Kd.N (Kd.slice 3 (Kd.int .i64)) 23 w' w.heap.size (fun k_ => some k_ ≠ ((.slice Ao22 t242.length co22) : Value).ownBlock) v243 t241) ∧ Aside0 (Kd.R (Kd.int .i64) 3 w' w.heap.size (fun _ => True) (.slice Ao22 t242.length co22) t242) ∧ Aside0 (Below w.heap.size w w'))
     case atStart => exact ⟨((t242.length : Int)), rf_, H', ⟨Nat.le_refl _⟩, ⟨rn_ HO244.out⟩, ⟨rr_ HO246.out⟩, ⟨hb_⟩⟩
     case round =>
      clear H'; (try clear c1); (try clear p1); (try clear q1); (try clear hx1); (try clear c2); (try clear p2); (try clear q2); (try clear hx2); (try clear c4); (try clear c4b0); (try clear c4b1); (try clear p6); (try clear c7); (try clear c7b0); (try clear c8); (try clear c8b0); (try clear c9); (try clear c9b0); (try clear c10); (try clear p11); (try clear q11); (try clear c14); (try clear c16); (try clear hx16); (try clear hf16); (try clear c17); (try clear hx16_0); (try clear hx235_0); (try clear hx236_0); (try clear p11); (try clear p2); (try clear p235); (try clear p236); (try clear q11); (try clear q235); (try clear q236); obtain ⟨x11_2, rfl, HA, HK2, HO_8, HO_10, HB⟩ := hrel
      cases gk with
      | zero => exact absurd HA.out (by simp [signatoryref13_Combine.l1])
      | succ k2 =>
       have H := HA.out; clear HA; simp only [signatoryref13_Combine.l1] at H
       by_cases c23 : x11_2 < (t241.length : Int)
       ·rw [if_pos c23] at H
        have c23b0 : decide (x11_2 < (t241.length : Int)) = true := decide_eq_true c23; clear c23
        by_cases c24 : 0 ≤ x11_2
        ·rw [if_pos c24] at H
         have c24b0 : decide (0 ≤ x11_2) = true := decide_eq_true c24; clear c24
         by_cases c25 : 0 ≤ (l0.length : Int)
         ·rw [if_pos c25] at H
          have c25b0 : decide (0 ≤ (l0.length : Int)) = true := decide_eq_true c25; have c25b1 : decide (0 ≤ l0.length) = true := decide_eq_true (by omega); clear c25
          by_cases c26 : (l0.length : Int) < ((rd_L1 t241 x11_2).length : Int)
          ·rw [if_pos c26] at H
           have c26b0 : decide ((l0.length : Int) < ((rd_L1 t241 x11_2).length : Int)) = true := decide_eq_true c26; have c26b1 : decide (l0.length < (rd_L1 t241 x11_2).length) = true := decide_eq_true (Int.ofNat_lt.mp c26); clear c26
           by_cases c27 : (rd (rd_L1 t241 x11_2) (l0.length : Int)) = 0
           ·rw [if_pos c27] at H
            have c27b0 : ((rd (rd_L1 t241 x11_2) (l0.length : Int)) == 0) = true := beq_iff_eq.mpr c27; have c27b1 : ((rd (rd_L1 t241 x11_2) (l0.length : Int)) != 0) = false := bne_eq_false_iff_eq.mpr c27; clear c27; have H' := Aside0.mk H; clear H; obtain ⟨Ao28, co28, eo28⟩ := Kd.N_slice HO_8.out; subst eo28; have p247 : 0 ≤ (x11_2 : Int) := of_decide_eq_true as_; have q247 : x11_2 < (t241.length : Int) := of_decide_eq_true as_; obtain ⟨ad247, A247_0, c247_0, e247, hx247_0, hl247_0, hi247_0⟩ := at_L1 (Kd.N_reads' HO_8.out).2.2 x11_2 p247 q247; cases e247; obtain ⟨ce247, hce247, hMe247, hcc247⟩ := Kd.N_get HO_8.out [] x11_2 p247 (by first | exact q247 | exact of_decide_eq_true as_ | (have e_ := (Kd.N_reads' HO_8.out).1; omega)); obtain ⟨ua247_0, uc247_0, rfl, ul247_0, ge247_0⟩ := Kd.FK_slice_open hMe247; have hv247_0 := hcc247 0 _ rfl; rw [Nat.add_zero, show ((Kd.slice 3 (Kd.int .i64))).sz = 1 from rfl, Nat.mul_one] at hv247_0; replace hv247_0 := Option.some.inj (hv247_0.symm.trans hx247_0); injection hv247_0 with hva_ hvn_ hvc_; rw [hva_] at ge247_0; rw [hvc_] at ul247_0; have HL247_0 := Aside0.mk (show Kd.V (Kd.int .i64) 3 _ w.heap.size _ _ (rd_L1 t241 x11_2) from Kd.V_mk ul247_0 ge247_0); clear hva_ hvn_ hvc_ ge247_0 ul247_0; have HX247_0 := Aside0.mk hx247_0; clear hcc247 hce247; have HR247_0 := Aside0.mk hi247_0; have HC247_0 := Aside0.mk hl247_0; clear hi247_0 hl247_0; replace p247 := eq_true p247; replace q247 := eq_true q247; have p248 : 0 ≤ ((l0.length : Int) : Int) := of_decide_eq_true as_; have q248 : (l0.length : Int) < ((rd_L1 t241 x11_2).length : Int) := of_decide_eq_true as_; obtain ⟨ad248, e248, hx248_0⟩ := Kd.at_int (cb_ HR247_0.out) (l0.length : Int) p248 q248; cases e248; (try simp only [Go.IntWalk.toNatUp] at hx248_0); replace p248 := eq_true p248; replace q248 := eq_true q248; go_wp2
            go_roundg k2
            case measure => have := HK1.out; have := HK2.out; omega
            case rel => exact ⟨(wrap64 (x11_2 + 1)), rf_, H', ⟨by have := HK1.out; have := HK2.out; omega⟩, ⟨rn_ HO_8.out⟩, ⟨rr_ HO_10.out⟩, ⟨hb_⟩⟩
           ·rw [if_neg c27] at H
            have c27b0 : ((rd (rd_L1 t241 x11_2) (l0.length : Int)) == 0) = false := beq_eq_false_iff_ne.mpr c27; have c27b1 : ((rd (rd_L1 t241 x11_2) (l0.length : Int)) != 0) = true := bne_iff_ne.mpr c27; simp only [Option.some.injEq, Prod.mk.injEq] at H; obtain ⟨rfl, rfl, rfl⟩ := H; obtain ⟨Ao29, co29, eo29⟩ := Kd.N_slice HO_8.out; subst eo29; have p247 : 0 ≤ (x11_2 : Int) := of_decide_eq_true as_; have q247 : x11_2 < (t241.length : Int) := of_decide_eq_true as_; obtain ⟨ad247, A247_0, c247_0, e247, hx247_0, hl247_0, hi247_0⟩ := at_L1 (Kd.N_reads' HO_8.out).2.2 x11_2 p247 q247; cases e247; obtain ⟨ce247, hce247, hMe247, hcc247⟩ := Kd.N_get HO_8.out [] x11_2 p247 (by first | exact q247 | exact of_decide_eq_true as_ | (have e_ := (Kd.N_reads' HO_8.out).1; omega)); obtain ⟨ua247_0, uc247_0, rfl, ul247_0, ge247_0⟩ := Kd.FK_slice_open hMe247; have hv247_0 := hcc247 0 _ rfl; rw [Nat.add_zero, show ((Kd.slice 3 (Kd.int .i64))).sz = 1 from rfl, Nat.mul_one] at hv247_0; replace hv247_0 := Option.some.inj (hv247_0.symm.trans hx247_0); injection hv247_0 with hva_ hvn_ hvc_; rw [hva_] at ge247_0; rw [hvc_] at ul247_0; have HL247_0 := Aside0.mk (show Kd.V (Kd.int .i64) 3 _ w.heap.size _ _ (rd_L1 t241 x11_2) from Kd.V_mk ul247_0 ge247_0); clear hva_ hvn_ hvc_ ge247_0 ul247_0; have HX247_0 := Aside0.mk hx247_0; clear hcc247 hce247; have HR247_0 := Aside0.mk hi247_0; have HC247_0 := Aside0.mk hl247_0; clear hi247_0 hl247_0; replace p247 := eq_true p247; replace q247 := eq_true q247; have p248 : 0 ≤ ((l0.length : Int) : Int) := of_decide_eq_true as_; have q248 : (l0.length : Int) < ((rd_L1 t241 x11_2).length : Int) := of_decide_eq_true as_; obtain ⟨ad248, e248, hx248_0⟩ := Kd.at_int (cb_ HR247_0.out) (l0.length : Int) p248 q248; cases e248; (try simp only [Go.IntWalk.toNatUp] at hx248_0); replace p248 := eq_true p248; replace q248 := eq_true q248; go_wp2
            go_ret3
            exact ⟨_, by first | rfl | (simp [errW_none, errW_some] <;> rfl) | (simp [*, errW_none, errW_some] <;> rfl), by first | exact Kd.R_nil _ _ _ _ _ | exact Kd.N_nil _ _ _ _ _ | exact Kd.V_nil _ _ _ _ _ | exact Kd.Q_nil _ _ _ _ _ | exact Kd.S_nil _ _ _ _ _, by repeat (first | (with_reducible first | exact HB.out | apply below_alloc | apply pw_below_drewN | apply below_drew1) | exact HB.out)⟩
          ·rw [if_neg c26] at H
           exact absurd H (by simp)
         ·rw [if_neg c25] at H
          exact absurd H (by simp)
        ·rw [if_neg c24] at H
         exact absurd H (by simp)
       ·rw [if_neg c23] at H
        have c23b0 : decide (x11_2 < (t241.length : Int)) = false := decide_eq_false c23; clear c23
        by_cases c30 : 0 ≤ (l0.length : Int)
        ·rw [if_pos c30] at H
         have c30b0 := eq_true c30; have c30b1 : decide (0 ≤ (l0.length : Int)) = true := decide_eq_true c30; clear c30
         by_cases c31 : ((l0.length : Int) : Int).toNat ≤ 35184372088832
         ·rw [if_pos c31] at H
          have c31b0 := eq_true c31; have c31b1 : decide (((l0.length : Int) : Int).toNat ≤ 35184372088832) = true := decide_eq_true c31; clear c31
          obtain ⟨y249, hy249⟩ : ∃ y_ : List Int, y_ = (List.replicate ((l0.length : Int) : Int).toNat 0) := ⟨_, rfl⟩
          replace H : (signatoryref13_Combine.l2 k2 l0 t241 t242 y249 0) = some (r1, r2, r3) := by first | (rw [hy249]; with_reducible exact H) | (have H2_ := (Option.bind_some _ _).symm.trans H; rw [hy249]; with_reducible exact H2_) | (have H2_ := (Option.bind_some _ _).symm.trans H; with_reducible exact H2_) | with_reducible exact H | (rw [hy249]; exact H) | exact H
          have Ny249 := Aside0.mk hy249; clear hy249; have H' := Aside0.mk H; clear H; obtain ⟨Ao32, co32, eo32⟩ := Kd.N_slice HO_8.out; subst eo32; go_wp2_with (first | ((with_reducible refine gate_dst (N := 69) rfl ?_); refine Kd.R_make (Kd.int .i64) _ 3 rfl (N := 69) rfl 23 _ _ rfl (l0.length : Int) rfl rfl Try.underlying23 (.int .i64 0) 8 info3 rfl (by decide) (by omega) 0 (ok := fun _ => True) (okp := fun _ => True) rfl (fun _ hk => hk) trivial (of_decide_eq_true as_) (Nat.le_trans (Nat.mul_le_mul_right _ (of_decide_eq_true as_ : (l0.length : Int).toNat ≤ 35184372088832)) (by omega)) (Below.refl _ _) (Nat.le_refl _) ?_; intro v250 w33 ho34 hb hg_ hnew_; clear hg_ hnew_; (first | rw [← Ny249.out] at ho34 | (simp only [Int.reduceToNat] at ho34; rw [← Ny249.out] at ho34)); have n0_ := Aside0.mk (Kd.N_elder' (rn_ HO_8.out) (Kd.R_base ho34) hb); have n1_ := Aside0.mk (Kd.R_elder' (rr_ HO_10.out) (Kd.R_base ho34) hb); have n2_ := Aside0.mk (Kd.R_lower (Kd.R_new' ho34 (Kd.R_lt (rr_ HO_10.out))) (below_size hb_)); have n3_ := Aside0.mk (below_step hb_ hb); clear HO_8; clear HO_10; clear HB; have HO_8 := n0_; have HO_10 := n1_; have HO251 := n2_; have HB := n3_; clear n0_ n1_ n2_ n3_; clear hb ho34))
          go_loopg [13] k2 (fun kq v13 w' => ∃ (x12_3 : List Int) (x13_3 : Int), v13 = .int .i64 x13_3 ∧ Aside0 (signatoryref13_Combine.l2 kq l0 t241 t242 x12_3 x13_3 = some (r1, r2, r3)) ∧ Aside0 (kq ≤ k2) ∧ Aside0 (Kd.N (Kd.slice 3 (Kd.int .i64)) 23 w' w.heap.size (fun k_ => some k_ ≠ ((.slice Ao22 t242.length co22) : Value).ownBlock ∧ some k_ ≠ (v250 : Value).ownBlock) (.slice Ao32 t241.length co32) t241) ∧ Aside0 (Kd.R (Kd.int .i64) 3 w' w.heap.size (fun k_ => some k_ ≠ (v250 : Value).ownBlock) (.slice Ao22 t242.length co22) t242) ∧ Aside0 (Kd.R (Kd.int .i64) 3 w' w.heap.size (fun k_ => some k_ ≠ ((.slice Ao22 t242.length co22) : Value).ownBlock) v250 x12_3) ∧ Aside0 (Below w.heap.size w w'))
          case atStart => exact ⟨(y249), (0), rf_, H', ⟨Nat.le_refl _⟩, ⟨rn_ HO_8.out⟩, ⟨by (with_reducible repeat (first | apply Kd.R_alloc | apply Kd.R_drewN | apply Kd.R_drew)); exact Kd.R_mono HO_10.out (fun _ hk => hk.2)⟩, ⟨by (with_reducible repeat (first | apply Kd.R_alloc | apply Kd.R_drewN | apply Kd.R_drew)); exact Kd.R_mono HO251.out (fun _ hk => hk.2)⟩, ⟨hb_⟩⟩
          case round =>
           clear H'; (try clear c1); (try clear p1); (try clear q1); (try clear hx1); (try clear c2); (try clear p2); (try clear q2); (try clear hx2); (try clear c3); (try clear c4); (try clear c4b0); (try clear c4b1); (try clear p6); (try clear c7); (try clear c7b0); (try clear c8); (try clear c8b0); (try clear c9); (try clear c9b0); (try clear c10); (try clear p11); (try clear q11); (try clear c14); (try clear c16); (try clear hx16); (try clear hf16); (try clear c17); (try clear c23); (try clear c23b0); (try clear p23); (try clear q23); (try clear hx23); (try clear c24); (try clear c24b0); (try clear p24); (try clear q24); (try clear hx24); (try clear c25); (try clear c25b0); (try clear c25b1); (try clear c26); (try clear c26b0); (try clear c26b1); (try clear c27); (try clear c27b0); (try clear c27b1); (try clear c30); (try clear c30b0); (try clear c30b1); (try clear c31); (try clear c31b0); (try clear c31b1); (try clear hx16_0); (try clear hx235_0); (try clear hx236_0); (try clear hx247_0); (try clear hx248_0); (try clear p1); (try clear p11); (try clear p2); (try clear p235); (try clear p236); (try clear p247); (try clear p248); (try clear p6); (try clear q1); (try clear q11); (try clear q2); (try clear q235); (try clear q236); (try clear q247); (try clear q248); obtain ⟨x12_3, x13_3, rfl, HA, HK3, HO_8, HO_10, HO_12, HB⟩ := hrel
           cases gk with
           | zero => exact absurd HA.out (by simp [signatoryref13_Combine.l2])
           | succ k3 =>
            have H := HA.out; clear HA; simp only [signatoryref13_Combine.l2] at H
            by_cases c35 : x13_3 < (t242.length : Int)
            ·rw [if_pos c35] at H
             have c35b0 : decide (x13_3 < (t242.length : Int)) = true := decide_eq_true c35; clear c35
             by_cases c36 : 0 ≤ x13_3
             ·rw [if_pos c36] at H
              have c36b0 : decide (0 ≤ x13_3) = true := decide_eq_true c36; clear c36
              by_cases c37 : x13_3 < (t241.length : Int)
              ·rw [if_pos c37] at H
               have c37b0 : decide (x13_3 < (t241.length : Int)) = true := decide_eq_true c37; clear c37
               by_cases c38 : 0 ≤ (l0.length : Int)
               ·rw [if_pos c38] at H
                have c38b0 : decide (0 ≤ (l0.length : Int)) = true := decide_eq_true c38; have c38b1 : decide (0 ≤ l0.length) = true := decide_eq_true (by omega); clear c38
                by_cases c39 : (l0.length : Int) < ((rd_L1 t241 x13_3).length : Int)
                ·rw [if_pos c39] at H
                 have c39b0 : decide ((l0.length : Int) < ((rd_L1 t241 x13_3).length : Int)) = true := decide_eq_true c39; have c39b1 : decide (l0.length < (rd_L1 t241 x13_3).length) = true := decide_eq_true (Int.ofNat_lt.mp c39); clear c39
                 by_cases c40 : 0 ≤ (rd t242 x13_3)
                 ·rw [if_pos c40] at H
                  have c40b0 : decide (0 ≤ (rd t242 x13_3)) = true := decide_eq_true c40; clear c40
                  by_cases c41 : (rd t242 x13_3) < (x12_3.length : Int)
                  ·rw [if_pos c41] at H
                   have c41b0 : decide ((rd t242 x13_3) < (x12_3.length : Int)) = true := decide_eq_true c41; clear c41
                   obtain ⟨y255, hy255⟩ : ∃ y_ : List Int, y_ = (x12_3.set ((rd t242 x13_3) : Int).toNat (rd (rd_L1 t241 x13_3) (l0.length : Int))) := ⟨_, rfl⟩
                   replace H : (signatoryref13_Combine.l2 k3 l0 t241 t242 y255 (wrap64 (x13_3 + 1))) = some (r1, r2, r3) := by first | (rw [hy255]; with_reducible exact H) | (have H2_ := (Option.bind_some _ _).symm.trans H; rw [hy255]; with_reducible exact H2_) | (have H2_ := (Option.bind_some _ _).symm.trans H; with_reducible exact H2_) | with_reducible exact H | (rw [hy255]; exact H) | exact H
                   have Ny255 := Aside0.mk hy255; clear hy255; have H' := Aside0.mk H; clear H
                   try go_wp2
                   have n0_ := Aside0.mk (Kd.N_drew HO_8.out); have n1_ := Aside0.mk (Kd.R_drew HO_10.out); have n2_ := Aside0.mk (Kd.R_drew HO_12.out); have n3_ := Aside0.mk (below_drew1 HB.out); clear HO_8; clear HO_10; clear HO_12; clear HB; have HO_8 := n0_; have HO_10 := n1_; have HO_12 := n2_; have HB := n3_; clear n0_ n1_ n2_ n3_; have p252 : 0 ≤ (x13_3 : Int) := of_decide_eq_true as_; have q252 : x13_3 < (t242.length : Int) := of_decide_eq_true as_; obtain ⟨ad252, e252, hx252_0⟩ := Kd.at_int (Kd.R_reads' HO_10.out).2.2 x13_3 p252 q252; cases e252; replace p252 := eq_true p252; replace q252 := eq_true q252; have p253 : 0 ≤ (x13_3 : Int) := of_decide_eq_true as_; have q253 : x13_3 < (t241.length : Int) := of_decide_eq_true as_; obtain ⟨ad253, A253_0, c253_0, e253, hx253_0, hl253_0, hi253_0⟩ := at_L1 (Kd.N_reads' HO_8.out).2.2 x13_3 p253 q253; cases e253; obtain ⟨ce253, hce253, hMe253, hcc253⟩ := Kd.N_get HO_8.out [] x13_3 p253 (by first | exact q253 | exact of_decide_eq_true as_ | (have e_ := (Kd.N_reads' HO_8.out).1; omega)); obtain ⟨ua253_0, uc253_0, rfl, ul253_0, ge253_0⟩ := Kd.FK_slice_open hMe253; have hv253_0 := hcc253 0 _ rfl; rw [Nat.add_zero, show ((Kd.slice 3 (Kd.int .i64))).sz = 1 from rfl, Nat.mul_one] at hv253_0; replace hv253_0 := Option.some.inj (hv253_0.symm.trans hx253_0); injection hv253_0 with hva_ hvn_ hvc_; rw [hva_] at ge253_0; rw [hvc_] at ul253_0; have HL253_0 := Aside0.mk (show Kd.V (Kd.int .i64) 3 _ w.heap.size _ _ (rd_L1 t241 x13_3) from Kd.V_mk ul253_0 ge253_0); clear hva_ hvn_ hvc_ ge253_0 ul253_0; have HX253_0 := Aside0.mk hx253_0; clear hcc253 hce253; have HR253_0 := Aside0.mk hi253_0; have HC253_0 := Aside0.mk hl253_0; clear hi253_0 hl253_0; replace p253 := eq_true p253; replace q253 := eq_true q253; have p254 : 0 ≤ ((l0.length : Int) : Int) := of_decide_eq_true as_; have q254 : (l0.length : Int) < ((rd_L1 t241 x13_3).length : Int) := of_decide_eq_true as_; obtain ⟨ad254, e254, hx254_0⟩ := Kd.at_int (cb_ HR253_0.out) (l0.length : Int) p254 q254; cases e254; (try simp only [Go.IntWalk.toNatUp] at hx254_0); replace p254 := eq_true p254; replace q254 := eq_true q254; have p42 : 0 ≤ ((rd t242 x13_3) : Int) := of_decide_eq_true as_; have q42 : ((rd t242 x13_3) : Int) < ((x12_3.length : Int) : Int) := of_decide_eq_true as_; obtain ⟨go42, co42, eo42, gb42, gl42, cl42, HG42⟩ := Kd.R_form HO_12.out (by omega)
                   (first | cases eo42 | (injection eo42 with ea_ en_ ec_; (first | subst ea_ | (injection ea_ with ea_; subst ea_)); subst ec_; clear en_))
                   have GB42 := Aside0.mk gb42; have GG42 := Aside0.mk HG42; clear gb42 gl42 HG42; obtain ⟨hx42_0, hf42_0⟩ := Kd.R_celln 0 HO_12.out ((rd t242 x13_3) : Int) p42 q42; replace p42 := eq_true p42; replace q42 := eq_true q42; have HP44 := Kd.R_putn HO_12.out ((rd t242 x13_3) : Int) (rd (rd_L1 t241 x13_3) (l0.length : Int)); rw [← Ny255.out] at HP44; have HQ44 := Aside0.mk HP44; clear HP44
                   refine start_ (n := 15) (S := fun w' => w'.cell? (ad252.add (x13_3).toNat) = some (.int .i64 (rd t242 x13_3)) ∧ w'.cell? (ad253.add (x13_3).toNat) = some (.slice (some ad254) (rd_L1 t241 x13_3).length c253_0) ∧ w'.cell? (ad254.add ((l0.length : Int)).toNat) = some (.int .i64 (rd (rd_L1 t241 x13_3) (l0.length : Int)))) (ds := [14]) #[false, false, false, false, false, false, false, false, false, false, false, false, false, false, false] (by kernel_rfl) rfl rfl ⟨hx252_0, hx253_0, hx254_0⟩ (fun hHeld => ?_); refine with_tabW signatoryref13_Combine.tab19 signatoryref13_Combine.bits19 (fun HT_ HW_ => ?_)
                   generalize wr.drew = w43 at HO_8 HO_10 HO_12 HB GG42 HL253_0 HQ44 HR253_0 HX253_0 hf42_0 hx252_0 hx253_0 hx254_0 hx42_0 hHeld ⊢; refine pure_ (i := 0) (N := some 76) (v := ?_) (a' := ?_) #[true, false, false, false, false, false, false, false, false, false, false, false, false, false, false] rfl rfl (any_of HT_.out (by kernel_rfl)) (fun _ _ _ h => h) (Or.inl ⟨by rfl, ?_⟩) ?_ ?_; rotate_left
                   ·intro w'
                    go_simp
                    with_reducible rfl
                   rotate_left
                   ·simp only [Act.put, List.setIfInBounds_toArray, List.set_cons_zero, List.set_cons_succ, i64_w, i32_w]
                    rfl
                   refine pure_ (i := 1) (N := some 77) (v := ?_) (a' := ?_) #[true, true, false, false, false, false, false, false, false, false, false, false, false, false, false] rfl rfl (any_of HT_.out (by kernel_rfl)) (fun _ _ _ h => h) (Or.inl ⟨by rfl, ?_⟩) ?_ ?_; rotate_left
                   ·intro w'
                    go_simp
                    with_reducible rfl
                   rotate_left
                   ·simp only [Act.put, List.setIfInBounds_toArray, List.set_cons_zero, List.set_cons_succ, i64_w, i32_w]
                    rfl
                   refine pure_ (i := 2) (N := some 78) (v := ?_) (a' := ?_) #[true, true, true, false, false, false, false, false, false, false, false, false, false, false, false] rfl rfl (any_of HT_.out (by kernel_rfl)) (fun _ _ _ h => h) (Or.inl ⟨by rfl, ?_⟩) ?_ ?_; rotate_left
                   ·intro w'
                    go_simp
                    with_reducible rfl
                   rotate_left
                   ·simp only [Act.put, List.setIfInBounds_toArray, List.set_cons_zero, List.set_cons_succ, i64_w, i32_w]
                    rfl
                   refine pure_ (i := 3) (N := some 79) (v := ?_) (a' := ?_) #[true, true, true, true, false, false, false, false, false, false, false, false, false, false, false] rfl rfl (any_of HT_.out (by kernel_rfl)) (fun _ _ _ h => h) (Or.inl ⟨by rfl, ?_⟩) ?_ ?_; rotate_left
                   ·intro w'
                    go_simp
                    with_reducible rfl
                   rotate_left
                   ·simp only [Act.put, List.setIfInBounds_toArray, List.set_cons_zero, List.set_cons_succ, i64_w, i32_w]
                    rfl
                   refine pure_ (i := 5) (N := some 81) (v := ?_) (a' := ?_) #[true, true, true, true, false, true, false, false, false, false, false, false, false, false, false] rfl rfl (any_of HT_.out (by kernel_rfl)) (fun _ _ _ h => h) (Or.inl ⟨by rfl, ?_⟩) ?_ ?_; rotate_left
                   ·intro w'
                    go_simp
                    with_reducible rfl
                   rotate_left
                   ·simp only [Act.put, List.setIfInBounds_toArray, List.set_cons_zero, List.set_cons_succ, i64_w, i32_w]
                    rfl
                   refine pure_ (i := 6) (N := some 82) (v := ?_) (a' := ?_) #[true, true, true, true, false, true, true, false, false, false, false, false, false, false, false] rfl rfl (any_of HT_.out (by kernel_rfl)) (fun _ _ _ h => h) (Or.inl ⟨by rfl, ?_⟩) ?_ ?_; rotate_left
                   ·intro w'
                    go_simp
                    with_reducible rfl
                   rotate_left
                   ·simp only [Act.put, List.setIfInBounds_toArray, List.set_cons_zero, List.set_cons_succ, i64_w, i32_w]
                    rfl
                   refine pure_ (i := 7) (N := some 83) (v := ?_) (a' := ?_) #[true, true, true, true, false, true, true, true, false, false, false, false, false, false, false] rfl rfl (any_of HT_.out (by kernel_rfl)) (fun _ _ _ h => h) (Or.inl ⟨by rfl, ?_⟩) ?_ ?_; rotate_left
                   ·intro w'
                    go_simp
                    with_reducible rfl
                   rotate_left
                   ·simp only [Act.put, List.setIfInBounds_toArray, List.set_cons_zero, List.set_cons_succ, i64_w, i32_w]
                    rfl
                   refine pure_ (i := 9) (N := some 85) (v := ?_) (a' := ?_) #[true, true, true, true, false, true, true, true, false, true, false, false, false, false, false] rfl rfl (any_of HT_.out (by kernel_rfl)) (fun _ _ _ h => h) (Or.inl ⟨by rfl, ?_⟩) ?_ ?_; rotate_left
                   ·intro w'
                    go_simp
                    with_reducible rfl
                   rotate_left
                   ·simp only [Act.put, List.setIfInBounds_toArray, List.set_cons_zero, List.set_cons_succ, i64_w, i32_w]
                    rfl
                   refine pure_ (i := 10) (N := some 86) (v := ?_) (a' := ?_) #[true, true, true, true, false, true, true, true, false, true, true, false, false, false, false] rfl rfl (any_of HT_.out (by kernel_rfl)) (fun _ _ _ h => h) (Or.inl ⟨by rfl, ?_⟩) ?_ ?_; rotate_left
                   ·intro w'
                    go_simp
                    with_reducible rfl
                   rotate_left
                   ·simp only [Act.put, List.setIfInBounds_toArray, List.set_cons_zero, List.set_cons_succ, i64_w, i32_w]
                    rfl
                   refine take_ (i := 4) (N := some 80) (v := ?_) (a' := ?_) #[true, true, true, true, true, true, true, true, false, true, true, false, false, false, false] rfl rfl (take_ofW HT_.out HW_.out (by kernel_rfl)) (fun _ _ _ h => h) (Or.inl ⟨by rfl, ?_⟩) hHeld ?_ ?_; rotate_left
                   ·rintro w' ⟨s0, s1, s2⟩
                    (try simp only [Go.IntWalk.toNatUp] at s2); go_simp
                    with_reducible rfl
                   rotate_left
                   ·simp only [Act.put, List.setIfInBounds_toArray, List.set_cons_zero, List.set_cons_succ, i64_w, i32_w]
                    rfl
                   refine take_ (i := 8) (N := some 84) (v := ?_) (a' := ?_) #[true, true, true, true, true, true, true, true, true, true, true, false, false, false, false] rfl rfl (take_ofW HT_.out HW_.out (by kernel_rfl)) (fun _ _ _ h => h) (Or.inl ⟨by rfl, ?_⟩) hHeld ?_ ?_; rotate_left
                   ·rintro w' ⟨s0, s1, s2⟩
                    (try simp only [Go.IntWalk.toNatUp] at s2); go_simp
                    with_reducible rfl
                   rotate_left
                   ·simp only [Act.put, List.setIfInBounds_toArray, List.set_cons_zero, List.set_cons_succ, i64_w, i32_w]
                    rfl
                   refine pure_ (i := 11) (N := some 87) (v := ?_) (a' := ?_) #[true, true, true, true, true, true, true, true, true, true, true, true, false, false, false] rfl rfl (any_of HT_.out (by kernel_rfl)) (fun _ _ _ h => h) (Or.inl ⟨by rfl, ?_⟩) ?_ ?_; rotate_left
                   ·intro w'
                    go_simp
                    with_reducible rfl
                   rotate_left
                   ·simp only [Act.put, List.setIfInBounds_toArray, List.set_cons_zero, List.set_cons_succ, i64_w, i32_w]
                    rfl
                   refine take_ (i := 12) (N := some 88) (v := ?_) (a' := ?_) #[true, true, true, true, true, true, true, true, true, true, true, true, true, false, false] rfl rfl (take_ofW HT_.out HW_.out (by kernel_rfl)) (fun _ _ _ h => h) (Or.inl ⟨by rfl, ?_⟩) hHeld ?_ ?_; rotate_left
                   ·rintro w' ⟨s0, s1, s2⟩
                    (try simp only [Go.IntWalk.toNatUp] at s2); go_simp
                    with_reducible rfl
                   rotate_left
                   ·simp only [Act.put, List.setIfInBounds_toArray, List.set_cons_zero, List.set_cons_succ, i64_w, i32_w]
                    rfl
                   refine pure_ (i := 13) (N := some 89) (v := ?_) (a' := ?_) #[true, true, true, true, true, true, true, true, true, true, true, true, true, true, false] rfl rfl (any_of HT_.out (by kernel_rfl)) (fun _ _ _ h => h) (Or.inl ⟨by rfl, ?_⟩) ?_ ?_; rotate_left
                   ·intro w'
                    go_simp
                    with_reducible rfl
                   rotate_left
                   ·simp only [Act.put, List.setIfInBounds_toArray, List.set_cons_zero, List.set_cons_succ, i64_w, i32_w]
                    rfl
                   refine last_ (i := 14) (N := none) #[true, true, true, true, true, true, true, true, true, true, true, true, true, true, true] rfl rfl (one_of HT_.out (by kernel_rfl)) (by decide) (fun K hK => ?_); refine skip_ (w1 := ?_) (by rfl) rfl ?_ ?_; rotate_left
                   ·go_simp
                    rfl
                   refine hK.out _ _ ?_; clear hK K; refine done_ (done_of HT_.out (by kernel_rfl)) ?_
                   try go_wp2
                   go_roundg k3
                   case measure => have := HK1.out; have := HK2.out; have := HK3.out; omega
                   case rel => exact ⟨(y255), (wrap64 (x13_3 + 1)), rf_, H', ⟨by have := HK1.out; have := HK2.out; have := HK3.out; omega⟩, ⟨by (with_reducible repeat (first | apply Kd.N_alloc | apply Kd.N_drewN | apply Kd.N_drew)); exact Kd.N_mono (Kd.N_far (p := ⟨go42, ((rd t242 x13_3) : Int).toNat, none⟩) (Kd.N_mono HO_8.out (fun k_ hk => (⟨hk, fun e_ => hk.2 (by rw [e_]; rfl)⟩ : _ ∧ k_ ≠ go42))) (fun _ hk => hk.2) (.int .i64 (rd (rd_L1 t241 x13_3) (l0.length : Int)))) (fun _ hk => ⟨hk.1.1, hk.1.2⟩)⟩, ⟨by (with_reducible repeat (first | apply Kd.R_alloc | apply Kd.R_drewN | apply Kd.R_drew)); exact Kd.R_mono (Kd.R_far (p := ⟨go42, ((rd t242 x13_3) : Int).toNat, none⟩) (Kd.R_mono HO_10.out (fun k_ hk => (⟨hk, fun e_ => hk (by rw [e_]; rfl)⟩ : _ ∧ k_ ≠ go42))) (fun _ hk => hk.2) (.int .i64 (rd (rd_L1 t241 x13_3) (l0.length : Int)))) (fun _ hk => hk.1)⟩, ⟨rr_ HQ44.out⟩, ⟨by repeat (first | (with_reducible first | exact HB.out | apply below_alloc | apply pw_below_drewN | apply below_drew1 | refine below_set ?_ GB42.out) | exact HB.out)⟩⟩
                  ·rw [if_neg c41] at H
                   exact absurd H (by simp)
                 ·rw [if_neg c40] at H
                  exact absurd H (by simp)
                ·rw [if_neg c39] at H
                 exact absurd H (by simp)
               ·rw [if_neg c38] at H
                exact absurd H (by simp)
              ·rw [if_neg c37] at H
               exact absurd H (by simp)
             ·rw [if_neg c36] at H
              exact absurd H (by simp)
            ·rw [if_neg c35] at H
             have c35b0 : decide (x13_3 < (t242.length : Int)) = false := decide_eq_false c35; clear c35; simp only [Option.some.injEq, Prod.mk.injEq] at H; obtain ⟨rfl, rfl, rfl⟩ := H; go_wp2
             go_ret3
             exact ⟨_, by first | rfl | (simp [errW_none, errW_some] <;> rfl) | (simp [*, errW_none, errW_some] <;> rfl), by (with_reducible repeat (first | apply Kd.R_alloc | apply Kd.R_drewN | apply Kd.R_drew)); exact Kd.R_mono HO_12.out (fun _ hk => trivial), by repeat (first | (with_reducible first | exact HB.out | apply below_alloc | apply pw_below_drewN | apply below_drew1) | exact HB.out)⟩
         ·rw [if_neg c31] at H
          exact absurd H (by simp)
        ·rw [if_neg c30] at H
         exact absurd H (by simp)
 ·rw [if_neg c4] at H
  have c4b0 : (t231 == 0) = false := beq_eq_false_iff_ne.mpr c4; have c4b1 : (t231 != 0) = true := bne_iff_ne.mpr c4; simp only [Option.some.injEq, Prod.mk.injEq] at H; obtain ⟨rfl, rfl, rfl⟩ := H
  go_enter Try.func98, Try.ntmps98
  go_wp2_with (first | ((with_reducible refine gate_callee (f := 172) rfl ?_); refine goesL_ (some 16) rfl rfl Try.func172 (by kernel_rfl) rfl #[.slice A0 l0.length c0, .slice A1 l1.length c1] rfl mp_ ?_; (with_reducible refine (signatoryref13_Error.calls k _ _ l0 _ _ l1 t231 _ ?side1 ?side2 ?side3 ?side4 A3.out).mono ?_); (case side1 => exact cb_ HR0.out); (case side2 => exact HC0.out); (case side3 => exact cb_ HR1.out); (case side4 => exact HC1.out); rintro e w' ⟨rfl, ⟨nd, rfl⟩⟩; refine ⟨_, rfl, ?_⟩))
  go_ret3
  exact ⟨_, by first | rfl | (simp [errW_none, errW_some] <;> rfl) | (simp [*, errW_none, errW_some] <;> rfl), by first | exact Kd.R_nil _ _ _ _ _ | exact Kd.N_nil _ _ _ _ _ | exact Kd.V_nil _ _ _ _ _ | exact Kd.Q_nil _ _ _ _ _ | exact Kd.S_nil _ _ _ _ _, by repeat (first | (with_reducible first | exact HB.out | apply below_alloc | apply pw_below_drewN | apply below_drew1) | exact HB.out)⟩
end Go.Proofs.Ytdbamhckgaoibaa.P
namespace Go.Proofs.Ytdbamhckgaoibaa.P
open Go.RowKit Go.Proofs.YtdbamhckgaoibaaW.PrintLast
def noDefer (ops : Array Oper) : Bool := ops.all fun o => match o.op with
  | .defer _ => false
  | _ => true
theorem semAt_plain {o : Oper} (h : (match o.op with | .defer _ => false | _ => true) = true) (ro : Option Nat) (ρ : Operand → Value) : Oper.semAt ro ρ o = execOp ρ o :=
  Oper.semAt_eq ro ρ o fun c e => by rw [e] at h; cases h
theorem wpIn_of_wp {P : Program} {l n : Nat} {o : Oper} {a : Act} {w : World} {K : Act → World → Prop} {Q : Exit → Act → World → Prop} (hd : (match o.op with | .defer _ => false | _ => true) = true) (h : o.wp P a w K Q) :
    o.wpIn (Fence.wide.inRound l) n P a w K Q := by
  refine ⟨fun _ _ => trivial, ?_⟩; rw [semAt_plain hd]; unfold Oper.wp at h
  revert h
  generalize (execOp a.eval o).run P w = r; intro h
  cases r with
  | ok v w' =>
    cases v with
    | value v => exact h
    | skip => exact h
    | defer d => exact h
    | enter f args => exact ⟨(fun e => by cases e), callsIn_wide.2 h⟩
    | row row args =>
      refine ⟨(fun e => by cases e), fun c cs _ => ?_⟩; obtain ⟨v, w2, hr, hs⟩ := h c cs; exact ⟨v, w2, hr, stepsIn_wide.2 hs⟩
    | _ => exact h.elim
  | halt hh w' =>
    cases hh with
    | panic v => exact h
    | _ => exact h.elim
theorem wpAnyIn_of_plain {P : Program} {l n : Nat} {md : Region.Mode} {ops : Array Oper} {Q : Exit → Act → World → Prop} (hd : noDefer ops = true) (hQ : ¬ LetsOut Q) :
    ∀ (fuel : Nat) (listed : Array Bool) (a : Act) (w : World), wpAny P md ops Q fuel listed a w → wpAnyIn (Fence.wide.inRound l) n P md ops Q fuel listed a w
  | 0, _, _, _, h => h
  | fuel + 1, listed, a, w, h => by
    refine ⟨h.1, fun i hi => ?_⟩; have h1 := wpOp_mono (fun a' w' h' => wpAnyIn_of_plain (l := l) (n := n) hd hQ fuel _ a' w' h') (h.2 i hi); unfold wpOp at h1; unfold wpOpIn
    cases ho : ops[i]? with
    | none => rw [ho] at h1; exact h1
    | some o =>
      rw [ho] at h1; simp only at h1 ⊢
      split at h1
      · rename_i hw
        rw [if_pos hw]
        rcases h1 with h1 | h1
        · refine wpIn_of_wp ?_ h1
          have := Array.all_eq_true_iff_forall_mem.1 hd o (Array.mem_of_getElem? ho); exact this
        · exact absurd h1.2 hQ
      · rename_i hw
        rw [if_neg hw]; exact ⟨fun _ _ => trivial, h1⟩
theorem startIn_ {P : Program} {ops : Array Oper} {Q : Exit → Act → World → Prop} {S : World → Prop} {ds : List Nat} {l m id n : Nat} {a : Act} {w : World} (lt : Array Bool) (hm : P.follows .mixedOrders = true) (hn : ops.size = n) (hl : Array.replicate n false = lt)
    (hd : noDefer ops = true) (hQ : ¬ LetsOut Q) (hS : S w.drew)
    (h : S w.drew → wpAnyLast P .any ops Q S ds n lt a w.drew) : (Code.region id ops true).wpIn (Fence.wide.inRound l) m P Q a w := by
  subst hn; subst hl; exact wpIn_region_any hm (wpAnyIn_of_plain hd hQ _ _ _ _ (wpAny_of_last _ _ _ _ (h hS)))
end Go.Proofs.Ytdbamhckgaoibaa.P
namespace Go.Proofs.Ytdbamhckgaoibaa.P
open Go.RowKit Go.Proofs.YtdbamhckgaoibaaW.PrintWords Go.Proofs.YtdbamhckgaoibaaW.PrintLast Go.Proofs.YtdbamhckgaoibaaW.PrintMore
attribute [local go_sem] Oper.semAt_some
set_option linter.unusedVariables false
set_option linter.unusedSimpArgs false
theorem after_c (A : Option Addr) (n c : Nat) (col : Int) (w : World) : Calls Try.prog 185 #[.slice A n c, .int .i64 col] w fun e w' =>
    e = .returned (.func (.func 206) #[] #[.pointer (some ⟨w.heap.size + 1, 0, none⟩), .pointer (some ⟨w.heap.size, 0, none⟩)]) ∧ w' = (w.alloc (.cells #[.slice A n c] 23)).alloc (.cells #[.int .i64 col] 3) := by
  go_enter Try.func185, Try.ntmps185
  go_wp2
  go_ret
  exact ⟨by first | rfl | (simp; done) | (simp; rfl), rfl⟩
set_option maxHeartbeats 1000000 in
theorem after1_in {l : Nat} {J : Nat → World → Prop} {bcol brow br col L cap : Nat} {x : Nat → Int} (hL : L ≤ 9223372036854775807)
    (hJ : ∀ k W, J k W → Bx W bcol (.int .i64 (col : Int)) ∧ Bx W brow (.slice (some ⟨br, 0, none⟩) L cap) ∧ (k < L → W.cell? ⟨br, k, none⟩ = some (.int .i64 (x k))))
    (hY : ∀ k W, k < L → J k W → YieldAt Fence.wide 7 Try.prog l #[.int .i64 (k : Int), .int .i64 (x k)] W fun e W' => e = .returned (.bool true) ∧ J (k + 1) W')
    (hc : col ≤ L) (W : World) (h0 : J col W) :
    CallsIn Fence.wide 8 Try.prog 206 #[.func (.yield l) #[] #[], .pointer (some ⟨bcol, 0, none⟩), .pointer (some ⟨brow, 0, none⟩)] W fun e W' => (∃ v, e = .returned v) ∧ J L W' := by
  refine callsIn_of_wp Try.func206 rfl trivial ?_ rfl; simp only [Try.ntmps206, List.size_toArray, List.length_cons, List.length_nil, Nat.reduceAdd, Nat.reduceSub, Array.replicate_succ, Array.replicate_zero, List.push_toArray, List.append_toArray, List.nil_append, List.cons_append]; obtain ⟨⟨c1, c2⟩, _, _⟩ := hJ _ _ h0
  gi_wp2
  gi_loopg [4] (L - col) (fun gk v4 wr => ∃ k : Nat, k ≤ L ∧ gk = L - k ∧ v4 = .int .i64 (k : Int) ∧ J k wr)
  case atStart => exact ⟨col, hc, rfl, rfl, h0⟩
  case round =>
    obtain ⟨k, hk, rfl, rfl, hj⟩ := hrel; obtain ⟨_, ⟨r1, r2⟩, r3⟩ := hJ _ _ hj
    by_cases hlt : k < L
    · have b1 : decide ((k : Int) < (L : Int)) = true := decide_eq_true (by omega)
      have b2 : decide (k < L) = true := decide_eq_true hlt
      have b3 : (0 : Int) ≤ (k : Int) := by omega
      have r4 := r3 hlt; obtain ⟨fn, tmps, assign, body, hy, hR⟩ := hY k wr hlt hj; clear r3
      gi_wp2
      refine hR.mono ?_; rintro e W' ⟨rfl, hj2⟩; clear r1 r2 r4
      gi_wp2
      gi_roundg (L - (k + 1))
      case measure => omega
      case rel => exact ⟨k + 1, by omega, rfl, by go_num, hj2⟩
    · have b1 : decide ((k : Int) < (L : Int)) = false := decide_eq_false (by omega)
      have b2 : decide (k < L) = false := decide_eq_false hlt
      obtain rfl : k = L := by omega
      gi_wp2
      go_end0
      exact ⟨⟨_, rfl⟩, hj⟩
theorem less_zero {a b : List Int} (ha : ∀ x ∈ a, Sig.InF x) (h : a.length = b.length) : Sig.less a b 0 = a := by
  apply List.ext_getElem
  · exact Sig.less_length h
  · intro i h1 h2
    have hx := ha _ (List.getElem_mem h2); unfold Sig.InF at hx; have e : (Sig.less a b 0)[i] = (a[i] - 0 * b[i]'(by omega)) % 1073741789 := List.getElem_zipWith; rw [e]; omega
theorem set_self_row (t : List (List Int)) (i : Nat) : t.set i (t.getD i []) = t := by
  apply List.ext_getElem
  · simp
  · intro k h1 h2
    rw [List.getElem_set]
    split
    · rename_i e; subst e; rw [List.getD_eq_getElem?_getD, List.getElem?_eq_getElem h2]; rfl
    · rfl
def mixRow (a b : List Int) (k : Nat) : List Int := b.take k ++ a.drop k
theorem mixRow_length {a b : List Int} {k : Nat} (h : a.length = b.length) : (mixRow a b k).length = a.length := by simp [mixRow]; omega
theorem mixRow_at {a b : List Int} {k j : Nat} (h : a.length = b.length) (hj : j < a.length) : (mixRow a b k).getD j 0 = if j < k then b.getD j 0 else a.getD j 0 := by
  unfold mixRow; rw [List.getD_eq_getElem?_getD, List.getElem?_append]; have hl : (b.take k).length = min k b.length := List.length_take
  by_cases e : j < k
  · rw [if_pos (by omega), if_pos e, List.getElem?_take_of_lt e, ← List.getD_eq_getElem?_getD]
  · rw [if_neg (by omega), if_neg e, List.getElem?_drop, List.getD_eq_getElem?_getD]
    congr 2
    omega
theorem mixRow_set {a b : List Int} {k : Nat} (h : a.length = b.length) (hk : k < a.length) : (mixRow a b k).set k (b.getD k 0) = mixRow a b (k + 1) := by
  have e : ∀ (l : List Int) j, j < l.length → l[j]? = some (l.getD j 0) := fun l j hj => by rw [List.getD_eq_getElem?_getD, List.getElem?_eq_getElem hj]; rfl
  apply List.ext_getElem?
  intro j
  rcases Nat.lt_or_ge j a.length with hj | hj
  · rw [e _ j (by rw [List.length_set, mixRow_length h]; exact hj), e _ j (by rw [mixRow_length h]; exact hj), Sig.getD_set_int, mixRow_at h hj, mixRow_at h hj, mixRow_length h]
    congr 1
    by_cases e1 : k = j
    · subst e1; rw [if_pos ⟨rfl, hk⟩, if_pos (by omega)]
    · rw [if_neg (fun h' => e1 h'.1)]
      by_cases e2 : j < k
      · rw [if_pos e2, if_pos (by omega)]
      · rw [if_neg e2, if_neg (by omega)]
  · rw [List.getElem?_eq_none (by rw [List.length_set, mixRow_length h]; exact hj), List.getElem?_eq_none (by rw [mixRow_length h]; exact hj)]
theorem mixRow_all {a b : List Int} (h : a.length = b.length) : mixRow a b a.length = b := by
  unfold mixRow; rw [List.drop_of_length_le (Nat.le_refl _), List.append_nil, List.take_of_length_le (by omega)]
theorem mixRow_start {a b : List Int} {k : Nat} (h : a.length = b.length) (he : ∀ d, d < k → d < a.length → b.getD d 0 = a.getD d 0) : mixRow a b k = a := by
  have e : ∀ (l : List Int) j, j < l.length → l[j]? = some (l.getD j 0) := fun l j hj => by rw [List.getD_eq_getElem?_getD, List.getElem?_eq_getElem hj]; rfl
  apply List.ext_getElem?
  intro j
  rcases Nat.lt_or_ge j a.length with hj | hj
  · rw [e _ j (by rw [mixRow_length h]; exact hj), e _ j hj, mixRow_at h hj]
    congr 1
    split
    · exact he j (by omega) hj
    · rfl
  · rw [List.getElem?_eq_none (by rw [mixRow_length h]; exact hj), List.getElem?_eq_none hj]
theorem less_start {a b : List Int} {n : Int} {k : Nat} (ha : ∀ x ∈ a, Sig.InF x) (h : a.length = b.length) (hz : ∀ d, d < k → b.getD d 0 = 0) : mixRow a (Sig.less a b n) k = a := by
  refine mixRow_start (Sig.less_length h).symm fun d hd hd2 => ?_
  have hx := Sig.getD_inF ha d; unfold Sig.InF at hx; rw [Sig.less_getD h hd2, hz d hd]; omega
def CI (w : World) (base g : Nat) (bs : List Nat) (t : List (List Int)) (i : Nat) (a b : List Int) (B4 B5 B8 B9 B10 : Nat) (v4 v5 v8 v9 v10 : Value) (k : Nat) (W : World) : Prop :=
  Tab W base g bs (t.set i (mixRow a b k)) ∧ Bx W B4 v4 ∧ Bx W B5 v5 ∧ Bx W B8 v8 ∧ Bx W B9 v9 ∧ Bx W B10 v10 ∧ Chg (fun k => k = bs.getD i 0) w W
set_option maxHeartbeats 2000000 in
theorem clear_zero (w : World) (base g cap : Nat) (bs : List Nat) (t : List (List Int)) (i bY c n : Nat) (hT : Tab w base g bs t) (hi : i < t.length) (hn : (t.getD i []).length = n) (hc : c < n) (hz : Sig.ent t i c = 0) (hb : base ≤ w.heap.size) (hcap : t.length ≤ cap) :
    Calls Try.prog 186 #[.slice (some ⟨g, 0, none⟩) t.length cap, .int .i64 (i : Int), .int .i64 (bY : Int), .int .i64 (c : Int)] w fun e w' => e = .returned (.tuple #[]) ∧ Below w.heap.size w w' := by
  obtain ⟨⟨cr, m1, m2⟩, m3⟩ := hT.main i hi; obtain ⟨q1, q2⟩ := hT.rows i hi c (by omega); have q3 : (t.getD i []).getD c 0 = 0 := hz; rw [q3] at q1; rw [hn] at m2
  have f1 : (0 : Int) ≤ (i : Int) := by omega
  have f2 : decide (i < t.length) = true := decide_eq_true hi
  have f3 : (i : Int) < (t.length : Int) := by omega
  have f4 : (0 : Int) ≤ (c : Int) := by omega
  have f5 : (c : Int) < (n : Int) := by omega
  have f6 : decide (c < n) = true := decide_eq_true hc; have hg := World.block_lt_of_cell? w _ m2; have hg2 := World.block_lt_of_cell? w _ q1; clear q3 hz m3 q2 hT hn hc; generalize bs.getD i 0 = bi at m2 q1 hg2
  go_enter Try.func186, Try.ntmps186
  go_wp2; exact bodyPost_ret (results_none rfl _ _ _) rfl ⟨rfl, (((Below.refl _ w).alloc (Nat.le_refl _) _).alloc (by simp) _).alloc (by simp; omega) _⟩
theorem keeps_below {W W' : World} (h : Below W.heap.size W W') : KeepsOthers W W' := ⟨h.size, fun k o hk _ => (h.block k (Array.getElem?_eq_some_iff.1 hk).1).trans hk⟩
theorem neg_wrap (a y : Int) : (a + wrap64 (-(y % 1073741789))) % 1073741789 = (a - y) % 1073741789 := by
  have h1 : 0 ≤ y % 1073741789 ∧ y % 1073741789 < 1073741789 := by omega
  have h2 : wrap64 (-(y % 1073741789)) = -(y % 1073741789) := by unfold wrap64; omega
  rw [h2]; omega
theorem CI.own (w : World) (base g : Nat) (bs : List Nat) (t : List (List Int)) (i : Nat) (a b : List Int) (B4 B5 B8 B9 B10 : Nat) (v4 v5 v8 v9 v10 : Value) {B : Nat} (hB : w.heap.size ≤ B) :
    OwnFrom B (CI w base g bs t i a b B4 B5 B8 B9 B10 v4 v5 v8 v9 v10) := by
  rintro k W W' row ⟨h0, h1, h2, h3, h4, h5, h6⟩ hg hr
  have hr' : ∀ r, row = some r → ∃ o : Obj, W.heap[r]? = some o ∧ o.isCells = false := fun r e => (hr r e).2
  exact ⟨h0.kept hg hr', h1.kept hg hr', h2.kept hg hr', h3.kept hg hr', h4.kept hg hr', h5.kept hg hr', h6.then_grown hg (fun k e => .inr (Nat.le_trans hB (hr k e).1))⟩
set_option maxRecDepth 100000 in
set_option maxHeartbeats 4000000 in
theorem clear_some (w : World) (base g cap : Nat) (bs : List Nat) (t : List (List Int)) (i bY c n : Nat) (hT : Tab w base g bs t) (hR : Sig.Rect t n) (hi : i < t.length) (hy : bY < t.length) (hne : i ≠ bY) (hc : c < n) (hn2 : n ≤ 9223372036854775807)
    (hz : ∀ d, d < c → Sig.ent t bY d = 0) (hb : base ≤ w.heap.size) (hz0 : Sig.ent t i c ≠ 0) :
    Calls Try.prog 186 #[.slice (some ⟨g, 0, none⟩) t.length cap, .int .i64 (i : Int), .int .i64 (bY : Int), .int .i64 (c : Int)] w fun e w' => e = .returned (.tuple #[]) ∧
      Tab w' base g bs (t.set i (Sig.less (t.getD i []) (t.getD bY []) (Sig.ent t i c))) ∧ Chg (fun k => k = bs.getD i 0) w w' := by
  have hni := (hR _ (Sig.getD_mem hi)).1; have hny := (hR _ (Sig.getD_mem hy)).1; have hIi := (hR _ (Sig.getD_mem hi)).2; obtain ⟨⟨cr, m1, m2⟩, m3⟩ := hT.main i hi; obtain ⟨⟨cy, y1, y2⟩, y3⟩ := hT.main bY hy; obtain ⟨q1, q2⟩ := hT.rows i hi c (by omega); have HLs := Aside0.mk (less_start (n := Sig.ent t i c) hIi (hni.trans hny.symm) hz); have hlen : (t.getD i []).length = (Sig.less (t.getD i []) (t.getD bY []) (Sig.ent t i c)).length := (Sig.less_length (hni.trans hny.symm)).symm
  have hLx : ∀ k, k < n → (Sig.less (t.getD i []) (t.getD bY []) (Sig.ent t i c)).getD k 0 = ((t.getD i []).getD k 0 - Sig.ent t i c * (t.getD bY []).getD k 0) % 1073741789 := fun k hk => Sig.less_getD (hni.trans hny.symm) (by omega)
  generalize hlL : Sig.less (t.getD i []) (t.getD bY []) (Sig.ent t i c) = L at *; have q0 : (t.getD i []).getD c 0 = Sig.ent t i c := rfl; rw [q0] at q1; generalize Sig.ent t i c = nv at *; rw [hni] at m2; rw [hny] at y2
  have f1 : (0 : Int) ≤ (i : Int) := by omega
  have f2 : decide (i < t.length) = true := decide_eq_true hi
  have f3 : (i : Int) < (t.length : Int) := by omega
  have f4 : (0 : Int) ≤ (c : Int) := by omega
  have f5 : (c : Int) < (n : Int) := by omega
  have f6 : decide (c < n) = true := decide_eq_true hc
  have f7 : (0 : Int) ≤ (bY : Int) := by omega
  have f8 : decide (bY < t.length) = true := decide_eq_true hy
  have f9 : (bY : Int) < (t.length : Int) := by omega
  have hg := World.block_lt_of_cell? w _ m2; have hg2 := World.block_lt_of_cell? w _ q1; have hgy := World.block_lt_of_cell? w _ y2; have HT := Aside0.mk hT; have HR := Aside0.mk hR; have HLx := Aside0.mk hLx; have HBI := Aside0.mk (show bs.getD i 0 = bs.getD i 0 from rfl)
  have hrowb : ∀ m, m < t.length → bs.getD m 0 < w.heap.size := fun m hm => by
    have h1 := (hR _ (Sig.getD_mem hm)).1; exact World.block_lt_of_cell? w _ (hT.rows m hm 0 (by omega)).1
  have HRB := Aside0.mk hrowb; have HQL := Aside0.mk hlL; clear q0 m3 q2 y3 hT hR hLx hrowb hlL hIi
  obtain ⟨bi, hbi⟩ : ∃ bi, bi = bs.getD i 0 := ⟨_, rfl⟩
  obtain ⟨bY', hbY⟩ : ∃ bY', bY' = bs.getD bY 0 := ⟨_, rfl⟩
  rw [← hbi] at m2 q1 hg2; rw [← hbY] at y2; have Hbi := Aside0.mk hbi; have HbY := Aside0.mk hbY; have Hni := Aside0.mk hni; have Hny := Aside0.mk hny; have Hlen := Aside0.mk hlen; clear hbi hbY hni hny hlen; refine (callsIn_wide (n := 9)).1 ?_; refine callsIn_of_wp_marks Try.func186 rfl trivial ?_ rfl; simp only [Try.ntmps186, List.size_toArray, List.length_cons, List.length_nil, Nat.reduceAdd, Nat.reduceSub, Array.replicate_succ, Array.replicate_zero, List.push_toArray, List.append_toArray, List.nil_append, List.cons_append]; have hzb : (nv == 0) = false := beq_eq_false_iff_ne.2 hz0; clear hz0; have hgA : g < w.heap.size + 1 := Nat.lt_succ_of_lt hg; have hgB : g < w.heap.size + 1 + 1 := Nat.lt_succ_of_lt hgA
  gi_wp2_with (refine ⟨trivial, ?_⟩; gi_at_call 185; refine (callsIn_wide.2 (after_c _ _ _ _ _)).mono ?_; rintro e w' ⟨rfl, rfl⟩)
  obtain ⟨W1, hW1⟩ : ∃ W1, ((w.alloc (.cells #[.slice (some ⟨g, 0, none⟩) t.length cap] 134)).alloc (.cells #[.int .i64 (i : Int)] 3)).alloc (.cells #[.int .i64 nv] 3) = W1 := ⟨_, rfl⟩
  rw [hW1]
  obtain ⟨W0, hW0⟩ : ∃ W0, (W1.alloc (.cells #[.slice (some ⟨bY', 0, none⟩) n cy] 23)).alloc (.cells #[.int .i64 (c : Int)] 3) = W0 := ⟨_, rfl⟩
  rw [hW0]
  have z1 : W1.heap.size = w.heap.size + 1 + 1 + 1 := by rw [← hW1]; simp
  have z0 : W0.heap.size = w.heap.size + 1 + 1 + 1 + 1 + 1 := by rw [← hW0]; simp [z1]
  have hB1 : Below w.heap.size w W1 := by rw [← hW1]; exact ((((Below.refl _ w).alloc (Nat.le_refl _) _).alloc (by simp) _).alloc (by simp; omega) _)
  have b4 : Bx W0 w.heap.size (.slice (some ⟨g, 0, none⟩) t.length cap) := by
    rw [← hW0, ← hW1]; exact ((((Bx.new w _ _).alloc _).alloc _).alloc _).alloc _
  have b5 : Bx W0 (w.heap.size + 1) (.int .i64 (i : Int)) := by
    rw [← hW0, ← hW1]; have := (((Bx.new (w.alloc (.cells #[.slice (some ⟨g, 0, none⟩) t.length cap] 134)) (.int .i64 (i : Int)) 3).alloc (.cells #[.int .i64 nv] 3)).alloc (.cells #[.slice (some ⟨bY', 0, none⟩) n cy] 23)).alloc (.cells #[.int .i64 (c : Int)] 3); simpa using this
  have b8 : Bx W0 (w.heap.size + 1 + 1) (.int .i64 nv) := by
    rw [← hW0, ← hW1]; have := ((Bx.new ((w.alloc (.cells #[.slice (some ⟨g, 0, none⟩) t.length cap] 134)).alloc (.cells #[.int .i64 (i : Int)] 3)) (.int .i64 nv) 3).alloc (.cells #[.slice (some ⟨bY', 0, none⟩) n cy] 23)).alloc (.cells #[.int .i64 (c : Int)] 3); simpa using this
  have b9 : Bx W0 (w.heap.size + 1 + 1 + 1) (.slice (some ⟨bY', 0, none⟩) n cy) := by
    rw [← hW0, ← z1]; exact (Bx.new W1 _ _).alloc _
  have b10 : Bx W0 (w.heap.size + 1 + 1 + 1 + 1) (.int .i64 (c : Int)) := by
    rw [← hW0, ← z1]; have := Bx.new (W1.alloc (.cells #[.slice (some ⟨bY', 0, none⟩) n cy] 23)) (.int .i64 (c : Int)) 3; simpa using this
  have hB0 : Below w.heap.size w W0 := by rw [← hW0]; exact (hB1.alloc (by omega) _).alloc (by simp; omega) _
  have HZ := Aside0.mk z0; have HB0 := Aside0.mk hB0
  have h0 : CI w base g bs t i (t.getD i []) L w.heap.size (w.heap.size + 1) (w.heap.size + 1 + 1) (w.heap.size + 1 + 1 + 1) (w.heap.size + 1 + 1 + 1 + 1) (.slice (some ⟨g, 0, none⟩) t.length cap) (.int .i64 (i : Int)) (.int .i64 nv) (.slice (some ⟨bY', 0, none⟩) n cy) (.int .i64 (c : Int)) c W0 := by
    refine ⟨?_, b4, b5, b8, b9, b10, Chg.of_below hB0⟩; rw [HLs.out, set_self_row]; exact HT.out.below hB0
  have H0 := Aside0.mk h0; clear h0 hB0 hB1 hW0 hW1 b4 b5 b8 b9 b10 z0 z1 q1 m2 y2
  refine range_all (by omega) rfl (enters_of Try.func206 (by kernel_rfl) rfl)
    (CI w base g bs t i (t.getD i []) L w.heap.size (w.heap.size + 1) (w.heap.size + 1 + 1) (w.heap.size + 1 + 1 + 1) (w.heap.size + 1 + 1 + 1 + 1) (.slice (some ⟨g, 0, none⟩) t.length cap) (.int .i64 (i : Int)) (.int .i64 nv) (.slice (some ⟨bY', 0, none⟩) n cy) (.int .i64 (c : Int))) c (fun k => k = n)
    (fun k vs k' => k < n ∧ vs = #[.int .i64 (k : Int), .int .i64 ((t.getD bY []).getD k 0)] ∧ k' = k + 1) ?_ H0.out ?_ ?_ ?_ ?_
  · exact CI.own _ _ _ _ _ _ _ _ _ _ _ _ _ _ _ _ _ _ (by rw [HZ.out]; omega)
  · rintro k vs k' ⟨_, rfl, _⟩; rfl
  · intro l W2 J _ hJI hJ hY hj0
    refine (after1_in (l := l) (J := J) (bcol := w.heap.size + 1 + 1 + 1 + 1) (brow := w.heap.size + 1 + 1 + 1) (br := bY') (col := c) (L := n) (cap := cy) (x := fun k => (t.getD bY []).getD k 0) hn2 (fun k W hj => ?_) (fun k W hk hj => hY k _ _ W ⟨hk, rfl, rfl⟩ hj) (by omega) W2 hj0).mono (fun e W' h => ⟨h.1, n, rfl, h.2⟩); obtain ⟨hT2, _, _, _, c9, c10, _⟩ := hJI k W hj; refine ⟨c10, c9, fun hk => ?_⟩; have hr := hT2.rows bY (by simpa using hy); rw [getD_set_row hi, if_neg hne] at hr; rw [HbY.out]; exact (hr k (by rw [Hny.out]; exact hk)).1
  · rintro l k vs k' W ⟨hk, rfl, rfl⟩ hI
    have HI := Aside0.mk hI; clear hI; have hLk := HLx.out k hk
    obtain ⟨xk, hxk⟩ : ∃ xk, xk = (t.getD bY []).getD k 0 := ⟨_, rfl⟩
    obtain ⟨ak, hak⟩ : ∃ ak, ak = (t.getD i []).getD k 0 := ⟨_, rfl⟩
    rw [← hxk, ← hak] at hLk; rw [← hxk]; have HLk := Aside0.mk hLk; have Hak := Aside0.mk hak; clear hLk hxk hak
    gi_wp2
    refine ⟨KeepsFrom.refl _ _, HI.out, ?_⟩; clear HI; rintro W2 ⟨hT2, d4, d5, d8, d9, d10, hB2⟩; obtain ⟨⟨cr2, m1', m2⟩, _⟩ := hT2.main i (by simpa using hi)
    have hmr : ((t.set i (mixRow (t.getD i []) L k)).getD i []) = mixRow (t.getD i []) L k := by rw [getD_set_row hi, if_pos rfl]
    have hml : (mixRow (t.getD i []) L k).length = n := by rw [mixRow_length Hlen.out]; exact Hni.out
    obtain ⟨q1, q2⟩ := hT2.rows i (by simpa using hi) k (by rw [hmr, hml]; exact hk); rw [hmr, hml] at m2; rw [hmr, mixRow_at Hlen.out (by rw [Hni.out]; exact hk), if_neg (by omega), ← Hak.out] at q1; rw [← Hbi.out] at m2 q1 q2; have hbk := World.block_lt_of_cell? W2 _ q1; have HT2 := Aside0.mk hT2; have HB2 := Aside0.mk hB2; have Hml := Aside0.mk hml; have Hmr := Aside0.mk hmr; have Hd := Aside0.mk (And.intro d4 (And.intro d5 (And.intro d8 (And.intro d9 d10)))); have e4 := d4.1; have e5 := d5.1; have e8 := d8.1
    have g1 : (0 : Int) ≤ (k : Int) := by omega
    have g2 : (k : Int) < (n : Int) := by omega
    have g3 : decide (k < n) = true := decide_eq_true hk; clear hT2 hB2 hml hmr d4 d5 d8 d9 d10 m1'
    gi_wp2
    refine startIn_ (n := 19) (S := fun w' => w'.cell? ⟨w.heap.size, 0, none⟩ = some (.slice (some ⟨g, 0, none⟩) t.length cap) ∧ w'.cell? ⟨w.heap.size + 1, 0, none⟩ = some (.int .i64 (i : Int)) ∧ w'.cell? ⟨g, i, none⟩ = some (.slice (some ⟨bi, 0, none⟩) n cr2) ∧ w'.cell? ⟨bi, k, none⟩ = some (.int .i64 ak) ∧ w'.cell? ⟨w.heap.size + 1 + 1, 0, none⟩ = some (.int .i64 nv)) (ds := [18]) #[false, false, false, false, false, false, false, false, false, false, false, false, false, false, false, false, false, false, false] (by kernel_rfl) rfl rfl (by kernel_rfl) (fun h => by obtain ⟨_, _, h⟩ := h; exact h) ⟨e4, e5, m2, q1, e8⟩ (fun hHeld => ?_); have hW2d : Below W2.heap.size W2 W2.drew := (Below.refl _ _).drew; generalize W2.drew = W3 at hHeld hW2d ⊢; clear e4 e5 e8 m2; refine take_ (i := 0) (N := some 28) (v := ?_) (a' := ?_) #[true, false, false, false, false, false, false, false, false, false, false, false, false, false, false, false, false, false, false] rfl rfl (by kernel_rfl) (fun _ _ _ h => h) (Or.inl ⟨by rfl, ?_⟩) hHeld ?_ ?_; rotate_left
    · rintro w' ⟨s0, s1, s2, s3, s4⟩
      go_simp
      with_reducible rfl
    rotate_left
    · simp only [Act.put, List.setIfInBounds_toArray, List.set_cons_zero, List.set_cons_succ, i64_w, i32_w]
      rfl
    refine take_ (i := 1) (N := some 29) (v := ?_) (a' := ?_) #[true, true, false, false, false, false, false, false, false, false, false, false, false, false, false, false, false, false, false] rfl rfl (by kernel_rfl) (fun _ _ _ h => h) (Or.inl ⟨by rfl, ?_⟩) hHeld ?_ ?_; rotate_left
    · rintro w' ⟨s0, s1, s2, s3, s4⟩
      go_simp
      with_reducible rfl
    rotate_left
    · simp only [Act.put, List.setIfInBounds_toArray, List.set_cons_zero, List.set_cons_succ, i64_w, i32_w]
      rfl
    refine pure_ (i := 2) (N := some 30) (v := ?_) (a' := ?_) #[true, true, true, false, false, false, false, false, false, false, false, false, false, false, false, false, false, false, false] rfl rfl (by kernel_rfl) (fun _ _ _ h => h) (Or.inl ⟨by rfl, ?_⟩) ?_ ?_; rotate_left
    · intro w'
      go_simp
      with_reducible rfl
    rotate_left
    · simp only [Act.put, List.setIfInBounds_toArray, List.set_cons_zero, List.set_cons_succ, i64_w, i32_w]
      rfl
    refine take_ (i := 3) (N := some 31) (v := ?_) (a' := ?_) #[true, true, true, true, false, false, false, false, false, false, false, false, false, false, false, false, false, false, false] rfl rfl (by kernel_rfl) (fun _ _ _ h => h) (Or.inl ⟨by rfl, ?_⟩) hHeld ?_ ?_; rotate_left
    · rintro w' ⟨s0, s1, s2, s3, s4⟩
      go_simp
      with_reducible rfl
    rotate_left
    · simp only [Act.put, List.setIfInBounds_toArray, List.set_cons_zero, List.set_cons_succ, i64_w, i32_w]
      rfl
    refine pure_ (i := 4) (N := some 32) (v := ?_) (a' := ?_) #[true, true, true, true, true, false, false, false, false, false, false, false, false, false, false, false, false, false, false] rfl rfl (by kernel_rfl) (fun _ _ _ h => h) (Or.inl ⟨by rfl, ?_⟩) ?_ ?_; rotate_left
    · intro w'
      go_simp
      with_reducible rfl
    rotate_left
    · simp only [Act.put, List.setIfInBounds_toArray, List.set_cons_zero, List.set_cons_succ, i64_w, i32_w]
      rfl
    refine take_ (i := 5) (N := some 33) (v := ?_) (a' := ?_) #[true, true, true, true, true, true, false, false, false, false, false, false, false, false, false, false, false, false, false] rfl rfl (by kernel_rfl) (fun _ _ _ h => h) (Or.inl ⟨by rfl, ?_⟩) hHeld ?_ ?_; rotate_left
    · rintro w' ⟨s0, s1, s2, s3, s4⟩
      go_simp
      with_reducible rfl
    rotate_left
    · simp only [Act.put, List.setIfInBounds_toArray, List.set_cons_zero, List.set_cons_succ, i64_w, i32_w]
      rfl
    refine take_ (i := 6) (N := some 34) (v := ?_) (a' := ?_) #[true, true, true, true, true, true, true, false, false, false, false, false, false, false, false, false, false, false, false] rfl rfl (by kernel_rfl) (fun _ _ _ h => h) (Or.inl ⟨by rfl, ?_⟩) hHeld ?_ ?_; rotate_left
    · rintro w' ⟨s0, s1, s2, s3, s4⟩
      go_simp
      with_reducible rfl
    rotate_left
    · simp only [Act.put, List.setIfInBounds_toArray, List.set_cons_zero, List.set_cons_succ, i64_w, i32_w]
      rfl
    refine pure_ (i := 7) (N := some 35) (v := ?_) (a' := ?_) #[true, true, true, true, true, true, true, true, false, false, false, false, false, false, false, false, false, false, false] rfl rfl (by kernel_rfl) (fun _ _ _ h => h) (Or.inl ⟨by rfl, ?_⟩) ?_ ?_; rotate_left
    · intro w'
      go_simp
      with_reducible rfl
    rotate_left
    · simp only [Act.put, List.setIfInBounds_toArray, List.set_cons_zero, List.set_cons_succ, i64_w, i32_w]
      rfl
    refine take_ (i := 8) (N := some 36) (v := ?_) (a' := ?_) #[true, true, true, true, true, true, true, true, true, false, false, false, false, false, false, false, false, false, false] rfl rfl (by kernel_rfl) (fun _ _ _ h => h) (Or.inl ⟨by rfl, ?_⟩) hHeld ?_ ?_; rotate_left
    · rintro w' ⟨s0, s1, s2, s3, s4⟩
      go_simp
      with_reducible rfl
    rotate_left
    · simp only [Act.put, List.setIfInBounds_toArray, List.set_cons_zero, List.set_cons_succ, i64_w, i32_w]
      rfl
    refine pure_ (i := 9) (N := some 37) (v := ?_) (a' := ?_) #[true, true, true, true, true, true, true, true, true, true, false, false, false, false, false, false, false, false, false] rfl rfl (by kernel_rfl) (fun _ _ _ h => h) (Or.inl ⟨by rfl, ?_⟩) ?_ ?_; rotate_left
    · intro w'
      go_simp
      with_reducible rfl
    rotate_left
    · simp only [Act.put, List.setIfInBounds_toArray, List.set_cons_zero, List.set_cons_succ, i64_w, i32_w]
      rfl
    refine pure_ (i := 10) (N := some 38) (v := ?_) (a' := ?_) #[true, true, true, true, true, true, true, true, true, true, true, false, false, false, false, false, false, false, false] rfl rfl (by kernel_rfl) (fun _ _ _ h => h) (Or.inl ⟨by rfl, ?_⟩) ?_ ?_; rotate_left
    · intro w'
      go_simp
      with_reducible rfl
    rotate_left
    · simp only [Act.put, List.setIfInBounds_toArray, List.set_cons_zero, List.set_cons_succ, i64_w, i32_w]
      rfl
    refine take_ (i := 11) (N := some 39) (v := ?_) (a' := ?_) #[true, true, true, true, true, true, true, true, true, true, true, true, false, false, false, false, false, false, false] rfl rfl (by kernel_rfl) (fun _ _ _ h => h) (Or.inl ⟨by rfl, ?_⟩) hHeld ?_ ?_; rotate_left
    · rintro w' ⟨s0, s1, s2, s3, s4⟩
      go_simp
      with_reducible rfl
    rotate_left
    · simp only [Act.put, List.setIfInBounds_toArray, List.set_cons_zero, List.set_cons_succ, i64_w, i32_w]
      rfl
    refine take_ (i := 12) (N := some 40) (v := ?_) (a' := ?_) #[true, true, true, true, true, true, true, true, true, true, true, true, true, false, false, false, false, false, false] rfl rfl (by kernel_rfl) (fun _ _ _ h => h) (Or.inl ⟨by rfl, ?_⟩) hHeld ?_ ?_; rotate_left
    · rintro w' ⟨s0, s1, s2, s3, s4⟩
      go_simp
      with_reducible rfl
    rotate_left
    · simp only [Act.put, List.setIfInBounds_toArray, List.set_cons_zero, List.set_cons_succ, i64_w, i32_w]
      rfl
    refine pure_ (i := 13) (N := some 41) (v := ?_) (a' := ?_) #[true, true, true, true, true, true, true, true, true, true, true, true, true, true, false, false, false, false, false] rfl rfl (by kernel_rfl) (fun _ _ _ h => h) (Or.inl ⟨by rfl, ?_⟩) ?_ ?_; rotate_left
    · intro w'
      go_simp
      with_reducible rfl
    rotate_left
    · simp only [Act.put, List.setIfInBounds_toArray, List.set_cons_zero, List.set_cons_succ, i64_w, i32_w]
      rfl
    refine one_ (i := 14) (N := some 42) #[true, true, true, true, true, true, true, true, true, true, true, true, true, true, true, false, false, false, false] rfl rfl (by kernel_rfl) (by decide) (fun K hK => ?_); refine goes_ Try.func65 (by kernel_rfl) rfl #[.int .i64 nv, .int .i64 xk] (by rfl) rfl rfl (by (try simp only [List.map_toArray, List.map_cons, List.map_nil]); first | done | rfl) ?_; refine (mul_c _ _ _).mono ?_; rintro e w' ⟨rfl, ⟨nd, rfl⟩⟩; refine ⟨_, rfl, hK.out _ _ ⟨pw_cell_below (pw_below_drewN (Below.refl _ _) _) hHeld.1, pw_cell_below (pw_below_drewN (Below.refl _ _) _) hHeld.2.1, pw_cell_below (pw_below_drewN (Below.refl _ _) _) hHeld.2.2.1, pw_cell_below (pw_below_drewN (Below.refl _ _) _) hHeld.2.2.2.1, pw_cell_below (pw_below_drewN (Below.refl _ _) _) hHeld.2.2.2.2⟩ (fun hHeld => ?_)⟩; clear hK K; refine pure_ (i := 15) (N := some 43) (v := ?_) (a' := ?_) #[true, true, true, true, true, true, true, true, true, true, true, true, true, true, true, true, false, false, false] rfl rfl (by kernel_rfl) (fun _ _ _ h => h) (Or.inl ⟨by rfl, ?_⟩) ?_ ?_; rotate_left
    · intro w'
      go_simp
      with_reducible rfl
    rotate_left
    · simp only [Act.put, List.setIfInBounds_toArray, List.set_cons_zero, List.set_cons_succ, i64_w, i32_w]
      rfl
    refine one_ (i := 16) (N := some 44) #[true, true, true, true, true, true, true, true, true, true, true, true, true, true, true, true, true, false, false] rfl rfl (by kernel_rfl) (by decide) (fun K hK => ?_); refine goes_ Try.func36 (by kernel_rfl) rfl #[.int .i64 ak, .int .i64 (wrap64 (-(nv * xk % 1073741789)))] (by rfl) rfl rfl (by (try simp only [List.map_toArray, List.map_cons, List.map_nil]); first | done | rfl) ?_; refine (field_Add_m.calls _ _ _ _ rfl).mono ?_; rintro e w' ⟨rfl, hbA⟩; refine ⟨_, rfl, hK.out _ _ ⟨pw_cell_below hbA hHeld.1, pw_cell_below hbA hHeld.2.1, pw_cell_below hbA hHeld.2.2.1, pw_cell_below hbA hHeld.2.2.2.1, pw_cell_below hbA hHeld.2.2.2.2⟩ (fun hHeld => ?_)⟩; clear hK K; refine pure_ (i := 17) (N := some 45) (v := ?_) (a' := ?_) #[true, true, true, true, true, true, true, true, true, true, true, true, true, true, true, true, true, true, false] rfl rfl (by kernel_rfl) (fun _ _ _ h => h) (Or.inl ⟨by rfl, ?_⟩) ?_ ?_; rotate_left
    · intro w'
      go_simp
      with_reducible rfl
    rotate_left
    · simp only [Act.put, List.setIfInBounds_toArray, List.set_cons_zero, List.set_cons_succ, i64_w, i32_w]
      rfl
    have hW5 := below_then (below_then hW2d hW2d.size (pw_below_drewN (Below.refl _ _) nd)) (by have := hW2d.size; simpa using this) hbA; have hfz : w'.frozen? ⟨bi, k, none⟩ = false := (hW5.frozen (p := ⟨bi, k, none⟩) hbk).trans q2; refine last_ (i := 18) (N := none) #[true, true, true, true, true, true, true, true, true, true, true, true, true, true, true, true, true, true, true] rfl rfl (by kernel_rfl) (by decide) (fun K hK => ?_); refine skip_ (w1 := ?_) (by rfl) rfl ?_ ?_; rotate_left
    · go_simp
      rfl
    refine hK.out _ _ ?_; clear hK K; refine done_ (by kernel_rfl) ?_; refine ⟨?_, ?_⟩
    · exact ((keeps_below hW5).trans (KeepsOthers.setCell _ _ _)).from _
    · have hv : (ak + wrap64 (-(nv * xk % 1073741789))) % 1073741789 = L.getD k 0 := (neg_wrap ak (nv * xk)).trans HLk.out.symm
      rw [hv]; obtain ⟨d4, d5, d8, d9, d10⟩ := Hd.out; have hs := HZ.out; have hT5 := (HT2.out.below hW5).put (i := i) (j := k) (by simpa using hi) (by rw [Hmr.out, Hml.out]; exact hk) (L.getD k 0); rw [Hmr.out, mixRow_set Hlen.out (by rw [Hni.out]; exact hk), List.set_set, ← Hbi.out] at hT5; clear hHeld; have r1 := (d4.below hW5).far (c := bi) (by have := hg2; omega) k (.int .i64 (L.getD k 0)); have r2 := (d5.below hW5).far (c := bi) (by have := hg2; omega) k (.int .i64 (L.getD k 0)); have r3 := (d8.below hW5).far (c := bi) (by have := hg2; omega) k (.int .i64 (L.getD k 0)); have r4 := (d9.below hW5).far (c := bi) (by have := hg2; omega) k (.int .i64 (L.getD k 0)); have r5 := (d10.below hW5).far (c := bi) (by have := hg2; omega) k (.int .i64 (L.getD k 0))
      have eti : t[i] = t.getD i [] := by rw [List.getD_eq_getElem?_getD, List.getElem?_eq_getElem hi]; rfl
      refine ⟨?_, r1, r2, r3, r4, r5, (HB2.out.then_below hW5).then_set (.inl Hbi.out) _⟩; rw [eti]; exact hT5
  · rintro D k W hD rfl ⟨hT2, d4, d5, d8, d9, d10, hB2⟩ hK
    gi_wp2
    refine ⟨by simp, .inl ⟨_, _, rfl, run_takeDeferred hK, ?_⟩⟩; refine ⟨.tuple #[], by simp [results, Try.results186, go_sem], rfl, ?_, ?_⟩
    · have hTk := hT2.kept (grownBy_putObj' W D (.deferred none)) (fun r e => by cases e; exact ⟨_, hK, rfl⟩)
      have e : mixRow (t.getD i []) L k = L := by rw [← Hni.out]; exact mixRow_all Hlen.out
      rw [e] at hTk; exact hTk
    · exact hB2.then_grown (grownBy_putObj' W D (.deferred none)) (fun k e => by cases e; right; have := HZ.out; omega)
theorem clear_c (w : World) (base g cap : Nat) (bs : List Nat) (t : List (List Int)) (i bY c n : Nat) (hT : Tab w base g bs t) (hR : Sig.Rect t n) (hi : i < t.length) (hy : bY < t.length) (hne : i ≠ bY) (hc : c < n) (hn2 : n ≤ 9223372036854775807)
    (hz : ∀ d, d < c → Sig.ent t bY d = 0) (hb : base ≤ w.heap.size) (hcap : t.length ≤ cap) :
    Calls Try.prog 186 #[.slice (some ⟨g, 0, none⟩) t.length cap, .int .i64 (i : Int), .int .i64 (bY : Int), .int .i64 (c : Int)] w fun e w' => e = .returned (.tuple #[]) ∧
      Tab w' base g bs (t.set i (Sig.less (t.getD i []) (t.getD bY []) (Sig.ent t i c))) ∧ Chg (fun k => k = bs.getD i 0) w w' := by
  by_cases h0 : Sig.ent t i c = 0
  · refine (clear_zero w base g cap bs t i bY c n hT hi (hR _ (Sig.getD_mem hi)).1 hc h0 hb hcap).mono ?_
    rintro e w' ⟨he, hB⟩; refine ⟨he, ?_, Chg.of_below hB⟩; rw [h0, less_zero (hR _ (Sig.getD_mem hi)).2 ((hR _ (Sig.getD_mem hi)).1.trans (hR _ (Sig.getD_mem hy)).1.symm), set_self_row]; exact hT.below hB
  · exact clear_some w base g cap bs t i bY c n hT hR hi hy hne hc hn2 hz hb h0
end Go.Proofs.Ytdbamhckgaoibaa.P
namespace Go.Proofs.Ytdbamhckgaoibaa.P
open Go.RowKit Go.Proofs.YtdbamhckgaoibaaW.PrintWords Go.Proofs.YtdbamhckgaoibaaW.PrintLast Go.Proofs.YtdbamhckgaoibaaW.PrintMore
set_option linter.unusedVariables false
set_option linter.unusedSimpArgs false
def markOf (D : Nat) : Deferred := { target := .collected D, args := #[] }
def Marks (base : Nat) (ds : List Deferred) (W : World) : Prop := ∃ Ds : List Nat, ds = Ds.map markOf ∧ Ds.Nodup ∧ ∀ D ∈ Ds, base ≤ D ∧ W.heap[D]? = some (.deferred (some []))
theorem Marks.nil (base : Nat) (W : World) : Marks base [] W := ⟨[], rfl, List.nodup_nil, fun _ h => by cases h⟩
theorem Marks.keep {base : Nat} {ds : List Deferred} {W W' : World} (h : Marks base ds W) (hk : ∀ D, base ≤ D → W.heap[D]? = some (.deferred (some [])) → W'.heap[D]? = some (.deferred (some []))) : Marks base ds W' := by
  obtain ⟨Ds, h1, h2, h3⟩ := h; exact ⟨Ds, h1, h2, fun D hD => ⟨(h3 D hD).1, hk D (h3 D hD).1 (h3 D hD).2⟩⟩
theorem Marks.below {base : Nat} {ds : List Deferred} {W W' : World} (h : Marks base ds W) (hb : Below W.heap.size W W') : Marks base ds W' :=
  h.keep fun D _ hD => (hb.block D (Array.getElem?_eq_some_iff.1 hD).1).trans hD
theorem Marks.chg {base : Nat} {ds : List Deferred} {S : Nat → Prop} {W W' : World} (h : Marks base ds W) (hc : Chg S W W') (hs : ∀ k, base ≤ k → ¬ S k) : Marks base ds W' :=
  h.keep fun D hb hD => (hc.block D (Array.getElem?_eq_some_iff.1 hD).1 (hs D hb)).trans hD
theorem Marks.cons {base : Nat} {ds : List Deferred} {W W' : World} {D : Nat} (h : Marks base ds W) (hb : base ≤ D) (hD : W'.heap[D]? = some (.deferred (some []))) (hn : W.heap.size ≤ D) (hk : ∀ D, base ≤ D → W.heap[D]? = some (.deferred (some [])) → W'.heap[D]? = some (.deferred (some []))) :
    Marks base (markOf D :: ds) W' := by
  obtain ⟨Ds, h1, h2, h3⟩ := h; refine ⟨D :: Ds, by rw [h1]; rfl, List.nodup_cons.2 ⟨fun hm => ?_, h2⟩, fun E hE => ?_⟩
  · have := (Array.getElem?_eq_some_iff.1 (h3 D hm).2).1; omega
  · rcases List.mem_cons.1 hE with rfl | hE
    · exact ⟨hb, hD⟩
    · exact ⟨(h3 E hE).1, hk E (h3 E hE).1 (h3 E hE).2⟩
theorem leaves_marks {n base : Nat} {P : Program} {fn : Func} {tmps : Array Value} {R : Ending → World → Prop} (I : World → Prop) (hI : ∀ W D, base ≤ D → W.heap[D]? = some (.deferred (some [])) → I W → I (W.putObj D (.deferred none)))
    (hR : ∀ W, I W → ∃ v, (results fn tmps).run P W = .ok v W ∧ R (.returned v) W) : ∀ (ds : List Deferred) (W : World), Marks base ds W → I W → LeavesInM Fence.wide n P fn tmps R ds .returning W := by
  intro ds W hM; obtain ⟨Ds, rfl, h2, h3⟩ := hM
  revert W
  induction Ds with
  | nil =>
    intro W _ hi; exact hR W hi
  | cons D Ds ih =>
    intro W h3 hi; rw [List.nodup_cons] at h2; obtain ⟨hb, hD⟩ := h3 D List.mem_cons_self; refine ⟨by simp, .inl ⟨D, _, rfl, run_takeDeferred hD, ?_⟩⟩; refine ih h2.2 _ (fun E hE => ⟨(h3 E (List.mem_cons_of_mem _ hE)).1, ?_⟩) (hI W D hb hD hi); exact (World.putObj_heap_other (fun e => h2.1 (by first | (rw [e]; exact hE) | (rw [← e]; exact hE)))).trans (h3 E (List.mem_cons_of_mem _ hE)).2
theorem own_chg {S : Nat → Prop} {w w1 : World} {base n : Nat} {e : TypeId} {size : Nat} {v : Value} {xs : List Value} (h : w.ownsRow base e size v n xs) (hc : Chg S w w1) (hs : ∀ k, base ≤ k → ¬ S k) : w1.ownsRow base e size v n xs :=
  own_move h fun k hk => hc.block k (own_lt h k hk) (hs k (own_base h k hk))
theorem own_nocell {w w1 : World} {base n : Nat} {e : TypeId} {size : Nat} {v : Value} {xs : List Value} (h : w.ownsRow base e size v n xs) {row : Option Nat} (hg : w.grownBy w1 row) (hr : ∀ r, row = some r → ∃ o : Obj, w.heap[r]? = some o ∧ o.isCells = false) : w1.ownsRow base e size v n xs :=
  own_move h fun k hk => hg.block k (own_lt h k hk) fun e1 => by
    obtain ⟨o, ho, hf⟩ := hr k e1.symm; obtain ⟨cells, hcl⟩ := own_typed h k hk; rw [hcl] at ho; cases ho
    simp [Obj.isCells] at hf
theorem R_of_owns {w : World} {base : Nat} {ok : Nat → Prop} {v : Value} {xs : List Int} (h : w.ownsRow base 3 1 v xs.length (nums .i64 xs)) (hok : ∀ k, v.ownBlock = some k → ok k) : Kd.R (Kd.int .i64) 3 w base ok v xs := by
  refine ⟨hok, nums .i64 xs, h, by simp [nums, Kd.int, Kd.scalar], fun j p hj => ?_⟩
  have : (nums .i64 xs)[j]? = some (.int .i64 p) := by simp [nums, hj]
  show ((nums .i64 xs).drop (j * 1)).take 1 = [.int .i64 p]
  rw [Nat.mul_one]; obtain ⟨hlt, he⟩ := List.getElem?_eq_some_iff.1 this; rw [List.drop_eq_getElem_cons hlt, List.take_succ_cons, List.take_zero, he]
def elim (t : List (List Int)) (r c : Nat) : Nat → List (List Int)
  | 0 => t
  | j + 1 => if j = r then elim t r c j else (elim t r c j).set j (Sig.less ((elim t r c j).getD j []) ((elim t r c j).getD r []) (Sig.ent (elim t r c j) j c))
theorem elim_length (t : List (List Int)) (r c : Nat) : ∀ j, (elim t r c j).length = t.length
  | 0 => rfl
  | j + 1 => by
    rw [elim]; split
    · exact elim_length t r c j
    · rw [List.length_set]; exact elim_length t r c j
theorem elim_getD (t : List (List Int)) (r c : Nat) : ∀ j, j ≤ t.length → ∀ i, (elim t r c j).getD i [] = if i < j ∧ i ≠ r then Sig.less (t.getD i []) (t.getD r []) (Sig.ent t i c) else t.getD i []
  | 0, _, i => by rw [if_neg (by omega)]; rfl
  | j + 1, hj, i => by
    have ih := elim_getD t r c j (by omega); rw [elim]
    by_cases e : j = r
    · rw [if_pos e, ih i]
      by_cases h : i < j ∧ i ≠ r
      · rw [if_pos h, if_pos ⟨by omega, h.2⟩]
      · rw [if_neg h, if_neg (fun h' => h ⟨by omega, h'.2⟩)]
    · have e1 : (elim t r c j).getD j [] = t.getD j [] := by rw [ih j, if_neg (by omega)]
      have e2 : (elim t r c j).getD r [] = t.getD r [] := by rw [ih r, if_neg (fun h => h.2 rfl)]
      rw [if_neg e, getD_set_row (by rw [elim_length]; omega)]; unfold Sig.ent; rw [e1, e2, ih i]
      by_cases h : j = i
      · subst h
        rw [if_pos rfl, if_pos ⟨by omega, e⟩]
      · rw [if_neg h]
        by_cases h2 : i < j ∧ i ≠ r
        · rw [if_pos h2, if_pos ⟨by omega, h2.2⟩]; rfl
        · rw [if_neg h2, if_neg (fun h' => h2 ⟨by omega, h'.2⟩)]
theorem ext_rows {s t : List (List Int)} (hl : s.length = t.length) (h : ∀ i, i < t.length → s.getD i [] = t.getD i []) : s = t := by
  apply List.ext_getElem hl
  intro i h1 h2; have := h i h2; rw [List.getD_eq_getElem?_getD, List.getD_eq_getElem?_getD, List.getElem?_eq_getElem h1, List.getElem?_eq_getElem h2] at this; exact this
def scaled (t : List (List Int)) (r k c : Nat) : List (List Int) := ((t.set r (t.getD k [])).set k (t.getD r [])).set r (Sig.times (t.getD k []) (Sig.finv (Sig.ent t k c)))
theorem scaled_getD {t : List (List Int)} {r k c : Nat} (hr : r < t.length) (hk : k < t.length) (i : Nat) : (scaled t r k c).getD i [] = if r = i then Sig.times (t.getD k []) (Sig.finv (Sig.ent t k c)) else Sig.swapped t r k i := by
  unfold scaled Sig.swapped; rw [getD_set_row (by simpa using hr), getD_set_row (by simpa using hk), getD_set_row hr]
  by_cases e : r = i
  · rw [if_pos e, if_pos e]
  · rw [if_neg e, if_neg e, if_neg e]
theorem elim_pivot {t : List (List Int)} {r k c : Nat} (hr : r < t.length) (hk : k < t.length) : elim (scaled t r k c) r c t.length = Sig.pivot t r k c := by
  have hsl : (scaled t r k c).length = t.length := by simp [scaled]
  refine ext_rows (by rw [elim_length, Sig.pivot_length, hsl]) fun i hi => ?_
  rw [Sig.pivot_length] at hi; rw [elim_getD _ _ _ _ (by omega), Sig.pivot_getD hk hi]; unfold Sig.ent; rw [scaled_getD hr hk, scaled_getD hr hk, if_pos rfl]
  by_cases e : i = r
  · subst e
    rw [if_neg (fun h => h.2 rfl), if_pos rfl, if_pos rfl]; rfl
  · rw [if_pos ⟨hi, e⟩, if_neg (fun h => e h.symm), if_neg e]; rfl
theorem fork_ {P : Program} {ops : Array Oper} {Q : Exit → Act → World → Prop} {md : Region.Mode} {S : World → Prop} {ds : List Nat} {i j : Nat} {N : Tmp} {oi oj : Oper} {v : Value} {fuel : Nat} {l : Array Bool} {a : Act} {w w1 : World} (li lj l' : Array Bool)
    (hi : ops[i]? = some oi) (hj : ops[j]? = some oj) (hN : oi.dst = some N) (hNj : oj.dst = none) (hd : j ∈ ds)
    (hc : (Region.ready md ops l == [i, j] && Region.ready md ops li == [j] && Region.ready md ops lj == [i] && l.setIfInBounds i true == li && l.setIfInBounds j true == lj && li.setIfInBounds j true == l' && lj.setIfInBounds i true == l') = true)
    (hy : YieldsIf P ops (fun w' => w' = w ∨ w' = w1) oi v a)
    (hw1 : Region.wanted oj (yielded ops a.tmps) = true) (hs1 : (execOp a.eval oj).run P w = .ok .skip w1) {a' : Act} (ha : a.put (some N) v = a')
    (hw2 : Region.wanted oj (yielded ops a'.tmps) = true) (hs2 : (execOp a'.eval oj).run P w = .ok .skip w1)
    (h : wpAnyLast P md ops Q S ds fuel l' a' w1) : wpAnyLast P md ops Q S ds (fuel + 2) l a w := by
  simp only [Bool.and_eq_true, beq_iff_eq] at hc; obtain ⟨⟨⟨⟨⟨⟨h1, h2⟩, h3⟩, h4⟩, h5⟩, h6⟩, h7⟩ := hc; refine wpAnyLast_ready h1 (by simp) ?_; intro m hm
  rcases List.mem_cons.1 hm with rfl | hm
  · refine hy.wpOp hi (.inl rfl) ⟨fun _ h => h, ?_⟩
    rw [hN, ha, h4]; refine wpAnyLast_ready h2 (by simp) ?_; intro m' hm'
    obtain rfl : m' = j := by simpa using hm'
    refine wpOp_step hj (fun K' hK => ?_); rw [hNj]; refine skip_ hw2 hNj hs2 (hK _ _ ⟨fun hn => absurd hd hn, ?_⟩); rw [h6]; exact h
  · obtain rfl : m = j := by simpa using hm
    refine wpOp_step hj (fun K' hK => ?_); rw [hNj]; refine skip_ hw1 hNj hs1 (hK _ _ ⟨fun hn => absurd hd hn, ?_⟩); rw [h5]; refine wpAnyLast_ready h3 (by simp) ?_; intro m' hm'
    obtain rfl : m' = i := by simpa using hm'
    refine hy.wpOp hi (.inr rfl) ⟨fun _ h => h, ?_⟩; rw [hN, ha, h7]; exact h
theorem own_len {w : World} {base n size : Nat} {e : TypeId} {v : Value} {xs : List Value} (h : w.ownsRow base e size v n xs) : ∃ A c, v = .slice A n c := by
  rcases h.2 with ⟨rfl, rfl⟩ | ⟨g, cap, cur, rfl, _⟩
  · exact ⟨none, 0, rfl⟩
  · exact ⟨_, _, rfl⟩
theorem own_far {w : World} {base n size : Nat} {e : TypeId} {v : Value} {xs : List Value} (h : w.ownsRow base e size v n xs) {b j : Nat} (hb : b < base) (u : Value) : (w.setCell ⟨b, j, none⟩ u).ownsRow base e size v n xs :=
  ownsRow_setCell_below h hb u
theorem times_start {a : List Int} {n : Int} {k : Nat} (ha : ∀ x ∈ a, Sig.InF x) (hz : ∀ d, d < k → a.getD d 0 = 0) : mixRow a (Sig.times a n) k = a := by
  refine mixRow_start (Sig.times_length a n).symm fun d hd hd2 => ?_
  rw [Sig.times_getD, hz d hd, Int.zero_mul]; rfl
structure RD (w : World) (base g : Nat) (S : Nat → Prop) (T : Nat) (tb : Value) (bs : List Nat) (t : List (List Int)) (ds : List Deferred) (W : World) : Prop where
  tab : Tab W base g bs t
  box : Bx W w.heap.size tb
  chg : Chg S w W
  marks : Marks w.heap.size ds W
  len : bs.length = T
  tlen : t.length = T
  low : ∀ i, i < T → S (bs.getD i 0)
  sg : S g
  slt : ∀ k, S k → k < w.heap.size
theorem RD.below {w : World} {base g : Nat} {S : Nat → Prop} {T : Nat} {tb : Value} {bs : List Nat} {t : List (List Int)} {ds : List Deferred} {W W' : World} (h : RD w base g S T tb bs t ds W) (hb : Below W.heap.size W W') : RD w base g S T tb bs t ds W' :=
  ⟨h.tab.below hb, h.box.below hb, h.chg.then_below hb, h.marks.below hb, h.len, h.tlen, h.low, h.sg, h.slt⟩
theorem RD.out {w : World} {base g : Nat} {S : Nat → Prop} {T : Nat} {tb : Value} {bs : List Nat} {t t' : List (List Int)} {ds : List Deferred} {W W' : World} {i : Nat} (h : RD w base g S T tb bs t ds W) (hi : i < T) (hT : Tab W' base g bs t') (hl : t'.length = T) (hc : Chg (fun k => k = bs.getD i 0) W W') : RD w base g S T tb bs t' ds W' :=
  ⟨hT, h.box.chg hc (fun e => by have := h.slt _ (h.low i hi); omega), h.chg.trans hc (fun k _ e => e ▸ h.low i hi), h.marks.chg hc (fun k hk e => by have := h.slt _ (h.low i hi); omega), h.len, hl, h.low, h.sg, h.slt⟩
theorem RD.kept {w : World} {base g : Nat} {S : Nat → Prop} {T : Nat} {tb : Value} {bs : List Nat} {t : List (List Int)} {ds : List Deferred} {W W' : World} (h : RD w base g S T tb bs t ds W) {row : Option Nat} (hg : W.grownBy W' row) (hr : ∀ k, row = some k → w.heap.size ≤ k ∧ (∃ o : Obj, W.heap[k]? = some o ∧ o.isCells = false)) (hM : Marks w.heap.size ds W') : RD w base g S T tb bs t ds W' :=
  ⟨h.tab.kept hg (fun r e => (hr r e).2), h.box.kept hg (fun r e => (hr r e).2), h.chg.then_grown hg (fun k e => .inr (hr k e).1), hM, h.len, h.tlen, h.low, h.sg, h.slt⟩
theorem RD.mark {w : World} {base g : Nat} {S : Nat → Prop} {T : Nat} {tb : Value} {bs : List Nat} {t : List (List Int)} {ds ds' : List Deferred} {W : World} (h : RD w base g S T tb bs t ds W) (hM : Marks w.heap.size ds' W) : RD w base g S T tb bs t ds' W :=
  ⟨h.tab, h.box, h.chg, hM, h.len, h.tlen, h.low, h.sg, h.slt⟩
theorem RD.swap {w : World} {base g : Nat} {S : Nat → Prop} {T : Nat} {tb : Value} {bs : List Nat} {t : List (List Int)} {ds : List Deferred} {W : World} (h : RD w base g S T tb bs t ds W) {r k n cr ck : Nat} (hr : r < T) (hk : k < T) (nr : (t.getD r []).length = n) (nk : (t.getD k []).length = n)
    (h1 : W.cell? ⟨g, r, none⟩ = some (.slice (some ⟨bs.getD r 0, 0, none⟩) n cr)) (h2 : W.cell? ⟨g, k, none⟩ = some (.slice (some ⟨bs.getD k 0, 0, none⟩) n ck)) (l1 : n ≤ cr) (l2 : n ≤ ck) :
    RD w base g S T tb ((bs.set r (bs.getD k 0)).set k (bs.getD r 0)) ((t.set r (t.getD k [])).set k (t.getD r [])) ds ((W.setCell ⟨g, r, none⟩ (.slice (some ⟨bs.getD k 0, 0, none⟩) n ck)).setCell ⟨g, k, none⟩ (.slice (some ⟨bs.getD r 0, 0, none⟩) n cr)) := by
  have hgl := h.slt g h.sg; have hT := h.tab.swap (h.len.trans h.tlen.symm) (by rw [h.tlen]; exact hr) (by rw [h.tlen]; exact hk) (cr := cr) (ck := ck) (by rw [nr]; exact h1) (by rw [nk]; exact h2) (by rw [nr]; exact l1) (by rw [nk]; exact l2); rw [nr, nk] at hT; refine ⟨hT, (h.box.far (c := g) (by omega) _ _).far (c := g) (by omega) _ _, (h.chg.then_set (.inl h.sg) _).then_set (.inl h.sg) _, h.marks.chg (S := fun k => k = g) (((Chg.refl (fun k => k = g) W).then_set (.inl rfl) _).then_set (.inl rfl) _) (fun k hk (e : k = g) => by omega), by simpa using h.len, by simpa using h.tlen, fun i hi => ?_, h.sg, h.slt⟩; rw [getD_set_nat, getD_set_nat]
  split
  · exact h.low r hr
  · split
    · exact h.low k hk
    · exact h.low i hi
theorem own_below {w w1 : World} {base n : Nat} {e : TypeId} {size : Nat} {v : Value} {xs : List Value} (h : w.ownsRow base e size v n xs) (hb : Below w.heap.size w w1) : w1.ownsRow base e size v n xs :=
  own_move h fun k hk => hb.block k (own_lt h k hk)
theorem Tab.chg {S : Nat → Prop} {W W' : World} {base g : Nat} {bs : List Nat} {t : List (List Int)} (h : Tab W base g bs t) (hc : Chg S W W') (hg : ¬ S g) (hb : ∀ i, i < t.length → ¬ S (bs.getD i 0)) : Tab W' base g bs t := by
  have hm : ∀ b, ¬ S b → ∀ j v, W.cell? ⟨b, j, none⟩ = some v → W'.cell? ⟨b, j, none⟩ = some v ∧ W'.frozen? ⟨b, j, none⟩ = W.frozen? ⟨b, j, none⟩ := fun b hb j v hv =>
    ⟨(hc.cell (a := ⟨b, j, none⟩) (World.block_lt_of_cell? W _ hv) hb).1.trans hv, (hc.cell (a := ⟨b, j, none⟩) (World.block_lt_of_cell? W _ hv) hb).2⟩
  refine ⟨h.geg, h.ge, h.ne, h.inj, fun i hi => ?_, fun i hi => (h.rows i hi).move (hm _ (hb i hi))⟩; obtain ⟨⟨c, h1, h2⟩, h3⟩ := h.main i hi; obtain ⟨h4, h5⟩ := hm g hg i _ h2; exact ⟨⟨c, h1, h4⟩, h5.trans h3⟩
theorem RD.appended {w : World} {base g : Nat} {S : Nat → Prop} {T : Nat} {tb : Value} {bs : List Nat} {t : List (List Int)} {ds : List Deferred} {W W' : World} (h : RD w base g S T tb bs t ds W) {n size : Nat} {e : TypeId} {v : Value} {xs : List Value} (hO : W.ownsRow (w.heap.size + 1) e size v n xs) (hg : W.grownBy W' v.ownBlock) : RD w base g S T tb bs t ds W' := by
  have hc : Chg (fun k => v.ownBlock = some k) W W' := (Chg.refl _ W).then_grown hg (fun k e => .inl e)
  have hlt : ∀ k, v.ownBlock = some k → w.heap.size + 1 ≤ k := fun k hk => own_base hO k hk
  have hgl := h.slt g h.sg; refine ⟨h.tab.chg hc (fun e => by have := hlt _ e; omega) (fun i hi e => by have h1 := hlt _ e; have h2 := h.slt _ (h.low i (by rw [← h.tlen]; exact hi)); omega), h.box.chg hc (fun e => by have := hlt _ e; omega), h.chg.then_grown hg (fun k e => .inr (by have := hlt _ e; omega)), h.marks.keep fun D hD hd => ?_, h.len, h.tlen, h.low, h.sg, h.slt⟩; refine (hc.block D (Array.getElem?_eq_some_iff.1 hd).1 fun e1 => ?_).trans hd; obtain ⟨cells, hcl⟩ := own_typed hO D e1; rw [hcl] at hd; cases hd
theorem own_mono {w : World} {base base' n : Nat} {e : TypeId} {size : Nat} {v : Value} {xs : List Value} (h : w.ownsRow base e size v n xs) (hb : base' ≤ base) : w.ownsRow base' e size v n xs := by
  refine ⟨h.1, ?_⟩
  rcases h.2 with h1 | ⟨g, cap, cur, h1, h2, h3⟩
  · exact .inl h1
  · exact .inr ⟨g, cap, cur, h1, Nat.le_trans hb h2, h3⟩
def CJ (W0 : World) (base g : Nat) (bs : List Nat) (t : List (List Int)) (i : Nat) (a b : List Int) (k : Nat) (W : World) : Prop := Tab W base g bs (t.set i (mixRow a b k)) ∧ Chg (fun k => k = bs.getD i 0) W0 W
theorem CJ.own (W0 : World) (base g : Nat) (bs : List Nat) (t : List (List Int)) (i : Nat) (a b : List Int) {B : Nat} (hB : W0.heap.size ≤ B) : OwnFrom B (CJ W0 base g bs t i a b) := by
  rintro k W W' row ⟨h0, h1⟩ hg hr; exact ⟨h0.kept hg (fun r e => (hr r e).2), h1.then_grown hg (fun k e => .inr (Nat.le_trans hB (hr k e).1))⟩
theorem rect_set {t : List (List Int)} {n i : Nat} {row : List Int} (h : Sig.Rect t n) (hl : row.length = n) (hr : ∀ x ∈ row, Sig.InF x) : Sig.Rect (t.set i row) n := fun r hm => by
  rcases List.mem_or_eq_of_mem_set hm with h1 | rfl
  · exact h r h1
  · exact ⟨hl, hr⟩
theorem rect_elim {t : List (List Int)} {n r c : Nat} (h : Sig.Rect t n) (hr : r < t.length) : ∀ j, j ≤ t.length → Sig.Rect (elim t r c j) n
  | 0, _ => h
  | j + 1, hj => by
    have ih := rect_elim (c := c) h hr j (by omega); rw [elim]
    split
    · exact ih
    · have h1 := (ih _ (Sig.getD_mem (show j < (elim t r c j).length by rw [elim_length]; omega))).1
      have h2 := (ih _ (Sig.getD_mem (show r < (elim t r c j).length by rw [elim_length]; omega))).1; exact rect_set ih ((Sig.less_length (h1.trans h2.symm)).trans h1) (Sig.less_inF _ _ _)
theorem swap_at {t : List (List Int)} {r k : Nat} (hr : r < t.length) (hk : k < t.length) : ((t.set r (t.getD k [])).set k (t.getD r [])).getD r [] = t.getD k [] := by
  rw [getD_set_row (by simpa using hk), getD_set_row hr]
  by_cases e : k = r
  · subst e; rw [if_pos rfl]
  · rw [if_neg e, if_pos rfl]
theorem swap_rect {t : List (List Int)} {n r k : Nat} (h : Sig.Rect t n) (hr : r < t.length) (hk : k < t.length) : Sig.Rect ((t.set r (t.getD k [])).set k (t.getD r [])) n :=
  rect_set (rect_set h (h _ (Sig.getD_mem hk)).1 (h _ (Sig.getD_mem hk)).2) (h _ (Sig.getD_mem hr)).1 (h _ (Sig.getD_mem hr)).2
theorem scaled_rect {t : List (List Int)} {n r k c : Nat} (h : Sig.Rect t n) (hr : r < t.length) (hk : k < t.length) : Sig.Rect (scaled t r k c) n :=
  rect_set (swap_rect h hr hk) ((Sig.times_length _ _).trans (h _ (Sig.getD_mem hk)).1) (Sig.times_inF _ _)
theorem scaled_zero {t : List (List Int)} {r k c j d : Nat} (hr : r < t.length) (hk : k < t.length) (hj : j ≤ t.length) (hz : Sig.ent t k d = 0) : Sig.ent (elim (scaled t r k c) r c j) r d = 0 := by
  unfold Sig.ent; rw [elim_getD _ _ _ _ (by simpa [scaled] using hj), if_neg (fun h => h.2 rfl), scaled_getD hr hk, if_pos rfl, Sig.times_getD]; have : (t.getD k []).getD d 0 = 0 := hz
  rw [this, Int.zero_mul]; rfl
def onlyN (K : Act → World → Prop) : Exit → Act → World → Prop
  | .normal, a, w => K a w
  | .ret, _, _ => False
  | .exit _, _, _ => False
  | .goto _, _, _ => False
  | .panic _, _, _ => False
  | .outgrown, _, _ => False
theorem region_only {n : Nat} {P : Program} {c : Code} {K : Act → World → Prop} {Q : Exit → Act → World → Prop} {a : Act} {w : World}
    (h : ∀ K' : Act → World → Prop, (∀ a' w', K a' w' → K' a' w') → c.wp P (onlyN K') a w) : c.wpIn Fence.wide n P (Exit.then K Q) a w := by
  refine wpIn_mono (wpIn_wide.2 (h K (fun _ _ h => h))) ?_; intro e a' w' hq
  cases e with
  | normal => exact hq
  | ret => exact hq.elim
  | exit id => exact hq.elim
  | goto t => exact hq.elim
  | panic ch => exact hq.elim
  | outgrown => exact hq.elim
end Go.Proofs.Ytdbamhckgaoibaa.P
