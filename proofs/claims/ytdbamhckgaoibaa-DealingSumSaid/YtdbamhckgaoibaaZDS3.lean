/- A part of the proof of DealingSum: The calls of linear.turned come to what their functions in Lean say.; What linear's two great functions call: need, check, examine, caught; a table made by turned.; linear.turned makes the table of the equations.; linear.Combine.; The calls of program.Check, dealing.numbers, group.Mul come to what their functions in Lean say.; program.Check in plain words.; dealing.Recover.; The group in plain words: elements, powers, the generator.; What is dealt, and the group's elements, in plain words. -/
import Derived.Test.YtdbamhckgaoibaaZDS2
import Derived.Defers
import Derived.Recover
namespace Go.Proofs.Ytdbamhckgaoibaa.P
open Go.RowKit Go.Proofs.YtdbamhckgaoibaaW.PrintWords Go.Proofs.YtdbamhckgaoibaaW.PrintLast Go.Proofs.YtdbamhckgaoibaaW.PrintMore
attribute [local go_sem] max2_int min2_int max_two min_two max_three min_three max_four min_four
set_option linter.unusedVariables false
set_option linter.unusedSimpArgs false
mutual
def linear_turned.l0 : Nat → List (List Int) → List (List Int) → List Int → Int → Int → Option ((List (List Int)))
 | 0, _, _, _, _, _ => none
 | k + 1, x0, x5, x13, x14, x15 => if x15 < x14 then (if 0 ≤ x15 then (if x15 < (x13.length : Int) then (linear_turned.l1 k x0 x5 x15 (rd x13 x15) x13 x14 x15 x0 (x0.length : Int) 0) else (none)) else (none)) else (some x5)
def linear_turned.l1 : Nat → List (List Int) → List (List Int) → Int → Int → List Int → Int → Int → List (List Int) → Int → Int → Option ((List (List Int)))
 | 0, _, _, _, _, _, _, _, _, _, _ => none
 | k + 1, x0, x5, x6, x7, x13, x14, x15, x20, x21, x22 => if x22 < x21 then (if 0 ≤ x22 then (if x22 < (x20.length : Int) then (if 0 ≤ x6 then (if x6 < (x5.length : Int) then (if x6 < ((rd_L1 x20 x22).length : Int) then (if (rd_L1 x5 x6).length < 17592186044416 then (linear_turned.l1 k x0 (x5.set (x6 : Int).toNat ((rd_L1 x5 x6) ++ [rd (rd_L1 x20 x22) x6])) x6 x7 x13 x14 x15 x20 x21 (wrap64 (x22 + 1))) else (none)) else (none)) else (none)) else (none)) else (none)) else (none)) else (if 0 ≤ x6 then (if x6 < (x5.length : Int) then (if (rd_L1 x5 x6).length < 17592186044416 then (linear_turned.l0 k x0 (x5.set (x6 : Int).toNat ((rd_L1 x5 x6) ++ [x7])) x13 x14 (wrap64 (x15 + 1))) else (none)) else (none)) else (none))
end
def linear_turned.f (k : Nat) (l0 : List (List Int)) (l1 : List Int) : Option ((List (List Int))) := if 0 ≤ (l1.length : Int) then (if ((l1.length : Int) : Int).toNat ≤ 11728124029610 then (linear_turned.l0 k l0 (List.replicate ((l1.length : Int) : Int).toNat []) l1 (l1.length : Int) 0) else (none)) else (none)
def linear_turned.T8 : Bool × List (List Nat × List Nat) := (true, [([], []), ([], []), ([], []), ([], []), ([2, 3], [2, 3]), ([4], [4]), ([], []), ([], []), ([6, 7], [6, 7]), ([8], [8]), ([9], [9]), ([5, 10], [5, 10]), ([0, 1, 0, 1, 2, 3, 4, 5, 6, 7, 8, 9, 10, 11], [0, 1]), ([12, 11, 11, 0, 1, 2, 3, 4, 5, 6, 7, 8, 9, 10, 11], [11, 12])])
def linear_turned.B8 : List Nat := [0, 0, 0, 0, 12, 28, 0, 0, 192, 448, 960, 2044, 4095, 8191]
theorem linear_turned.tab8 : rtab .any (opsOf Try.f169 8) = linear_turned.T8 := by kernel_rfl
theorem linear_turned.bits8 : waitsOk linear_turned.T8.2 linear_turned.B8 = true := by kernel_rfl
set_option maxHeartbeats 8000000 in
set_option maxRecDepth 100000 in
theorem linear_turned.calls (k : Nat) (A0 : Option Addr) (c0 : Nat) (l0 : List (List Int)) (A1 : Option Addr) (c1 : Nat) (l1 : List Int) (r : List (List Int)) (w : World) (hr0 : Kd.C (Kd.slice 3 (Kd.int .i64)) w A0 l0.length l0) (hc0 : l0.length ≤ c0) (hr1 : Kd.C (Kd.int .i64) w A1 l1.length l1) (hc1 : l1.length ≤ c1) (h : linear_turned.f k l0 l1 = some r) :
  Calls Try.prog 169 #[.slice A0 l0.length c0, .slice A1 l1.length c1] w fun e w' => ∃ v0_ : Value, e = .returned (v0_) ∧ Kd.S (Kd.slice 3 (Kd.int .i64)) 23 w' w.heap.size (fun _ => True) v0_ r ∧ Below w.heap.size w w' := by
 have HR0 := Aside0.mk hr0
 have HC0 := Aside0.mk hc0
 clear hr0 hc0
 have HR1 := Aside0.mk hr1
 have HC1 := Aside0.mk hc1
 clear hr1 hc1
 have HB := Aside0.mk (Below.refl w.heap.size w)
 have H : (if 0 ≤ (l1.length : Int) then (if ((l1.length : Int) : Int).toNat ≤ 11728124029610 then (linear_turned.l0 k l0 (List.replicate ((l1.length : Int) : Int).toNat []) l1 (l1.length : Int) 0) else (none)) else (none)) = some r := h
 clear h
 by_cases c3 : 0 ≤ (l1.length : Int)
 ·rw [if_pos c3] at H
  have c3b0 := eq_true c3
  have c3b1 : decide (0 ≤ (l1.length : Int)) = true := decide_eq_true c3
  clear c3
  by_cases c4 : ((l1.length : Int) : Int).toNat ≤ 11728124029610
  ·rw [if_pos c4] at H
   have c4b0 := eq_true c4
   have c4b1 : decide (((l1.length : Int) : Int).toNat ≤ 11728124029610) = true := decide_eq_true c4
   clear c4
   obtain ⟨y123, hy123⟩ : ∃ y_ : List (List Int), y_ = (List.replicate ((l1.length : Int) : Int).toNat []) := ⟨_, rfl⟩
   replace H : (linear_turned.l0 k l0 y123 l1 (l1.length : Int) 0) = some r := by first | (rw [hy123]; with_reducible exact H) | (have H2_ := (Option.bind_some _ _).symm.trans H; rw [hy123]; with_reducible exact H2_) | (have H2_ := (Option.bind_some _ _).symm.trans H; with_reducible exact H2_) | with_reducible exact H | (rw [hy123]; exact H) | exact H
   have Ny123 := Aside0.mk hy123
   clear hy123
   have H' := Aside0.mk H
   clear H
   go_enter Try.func169, Try.ntmps169
   go_wp2_with (first | ((with_reducible refine gate_dst (N := 12) rfl ?_); refine Kd.S_make (Kd.slice 3 (Kd.int .i64)) _ 23 rfl (N := 12) rfl 134 _ _ rfl (l1.length : Int) rfl rfl Try.underlying134 (.slice none 0 0) 24 info23 rfl (by decide) (by omega) [] (ok := fun _ => True) (okp := fun _ => True) ⟨_, rfl, Kd.R_nil _ _ _ _ _⟩ (fun _ hk => hk) trivial (of_decide_eq_true (by first | (with_reducible assumption) | assumption)) (Nat.le_trans (Nat.mul_le_mul_right _ (of_decide_eq_true (by first | (with_reducible assumption) | assumption) : (l1.length : Int).toNat ≤ 11728124029610)) (by omega)) (Below.refl _ _) (Nat.le_refl _) ?_; intro v124 w5 ho6 hb hg_ hnew_; clear hg_ hnew_; (first | rw [← Ny123.out] at ho6 | (simp only [Int.reduceToNat] at ho6; rw [← Ny123.out] at ho6)); have n0_ := Aside0.mk (Kd.S_lower ho6 (below_size (by repeat (first | (with_reducible first | exact HB.out | apply below_alloc | apply pw_below_drewN | apply below_drew1) | exact HB.out)))); have n1_ := Aside0.mk (below_step (by repeat (first | (with_reducible first | exact HB.out | apply below_alloc | apply pw_below_drewN | apply below_drew1) | exact HB.out)) hb); clear HB; have HO125 := n0_; have HB := n1_; clear n0_ n1_; clear hb ho6))
   go_loopg [15] k (fun kq v15 w' => ∃ (x5_1 : List (List Int)) (x15_1 : Int), v15 = .int .i64 x15_1 ∧ Aside0 (linear_turned.l0 kq l0 x5_1 l1 (l1.length : Int) x15_1 = some r) ∧ Aside0 (kq ≤ k) ∧ Aside0 (Kd.S (Kd.slice 3 (Kd.int .i64)) 23 w' w.heap.size (fun _ => True) v124 x5_1) ∧ Aside0 (Below w.heap.size w w'))
   case atStart => exact ⟨(y123), (0), (by first | rfl | (simp; done) | (simp [*]; done)), H', ⟨Nat.le_refl _⟩, ⟨by (with_reducible repeat (first | apply Kd.S_alloc | apply Kd.S_drewN | apply Kd.S_drew)); exact HO125.out⟩, ⟨by repeat (first | (with_reducible first | exact HB.out | apply below_alloc | apply pw_below_drewN | apply below_drew1) | exact HB.out)⟩⟩
   case round =>
    clear H'
    try clear c1
    try clear p2
    try clear c3
    try clear c3b0
    try clear c3b1
    try clear c4
    try clear c4b0
    try clear c4b1
    obtain ⟨x5_1, x15_1, rfl, HA, HK1, HO_5, HB⟩ := hrel
    cases gk with
    | zero => exact absurd HA.out (by simp [linear_turned.l0])
    | succ k1 =>
     have H := HA.out
     clear HA
     simp only [linear_turned.l0] at H
     by_cases c7 : x15_1 < (l1.length : Int)
     ·rw [if_pos c7] at H
      have c7b0 : decide (x15_1 < (l1.length : Int)) = true := decide_eq_true c7
      clear c7
      by_cases c8 : 0 ≤ x15_1
      ·rw [if_pos c8] at H
       have c8b0 : decide (0 ≤ x15_1) = true := decide_eq_true c8
       clear c8
       by_cases c9 : x15_1 < (l1.length : Int)
       ·rw [if_pos c9] at H
        have c9b0 : decide (x15_1 < (l1.length : Int)) = true := decide_eq_true c9
        clear c9
        have H' := Aside0.mk H
        clear H
        have p126 : 0 ≤ (x15_1 : Int) := of_decide_eq_true (by first | (with_reducible assumption) | assumption)
        have q126 : x15_1 < (l1.length : Int) := of_decide_eq_true (by first | (with_reducible assumption) | assumption)
        obtain ⟨ad126, e126, hx126_0⟩ := Kd.at_int HR1.out x15_1 p126 q126
        cases e126
        replace hx126_0 := (HB.out.cell (World.block_lt_of_cell? w _ hx126_0)).trans hx126_0
        replace p126 := eq_true p126
        replace q126 := eq_true q126
        go_wp2
        go_loopg [22] k1 (fun kq v22 w' => ∃ (x5_2 : List (List Int)) (x22_2 : Int), v22 = .int .i64 x22_2 ∧ Aside0 (linear_turned.l1 kq l0 x5_2 x15_1 (rd l1 x15_1) l1 (l1.length : Int) x15_1 l0 (l0.length : Int) x22_2 = some r) ∧ Aside0 (kq ≤ k1) ∧ Aside0 (Kd.S (Kd.slice 3 (Kd.int .i64)) 23 w' w.heap.size (fun _ => True) v124 x5_2) ∧ Aside0 (Below w.heap.size w w'))
        case atStart => exact ⟨(x5_1), (0), (by first | rfl | (simp; done) | (simp [*]; done)), H', ⟨Nat.le_refl _⟩, ⟨by (with_reducible repeat (first | apply Kd.S_alloc | apply Kd.S_drewN | apply Kd.S_drew)); exact HO_5.out⟩, ⟨by repeat (first | (with_reducible first | exact HB.out | apply below_alloc | apply pw_below_drewN | apply below_drew1) | exact HB.out)⟩⟩
        case round =>
         clear H'
         try clear c1
         try clear p1
         try clear q1
         try clear hx1
         try clear p2
         try clear c3
         try clear c3b0
         try clear c3b1
         try clear c4
         try clear c4b0
         try clear c4b1
         try clear c7
         try clear c7b0
         try clear c8
         try clear c8b0
         try clear c9
         try clear c9b0
         try clear hx126_0
         try clear p126
         try clear p2
         try clear q126
         obtain ⟨x5_2, x22_2, rfl, HA, HK2, HO_5, HB⟩ := hrel
         cases gk with
         | zero => exact absurd HA.out (by simp [linear_turned.l1])
         | succ k2 =>
          have H := HA.out
          clear HA
          simp only [linear_turned.l1] at H
          by_cases c10 : x22_2 < (l0.length : Int)
          ·rw [if_pos c10] at H
           have c10b0 : decide (x22_2 < (l0.length : Int)) = true := decide_eq_true c10
           clear c10
           by_cases c11 : 0 ≤ x22_2
           ·rw [if_pos c11] at H
            have c11b0 : decide (0 ≤ x22_2) = true := decide_eq_true c11
            clear c11
            by_cases c12 : x22_2 < (l0.length : Int)
            ·rw [if_pos c12] at H
             have c12b0 : decide (x22_2 < (l0.length : Int)) = true := decide_eq_true c12
             clear c12
             by_cases c13 : 0 ≤ x15_1
             ·rw [if_pos c13] at H
              have c13b0 : decide (0 ≤ x15_1) = true := decide_eq_true c13
              clear c13
              by_cases c14 : x15_1 < (x5_2.length : Int)
              ·rw [if_pos c14] at H
               have c14b0 : decide (x15_1 < (x5_2.length : Int)) = true := decide_eq_true c14
               clear c14
               by_cases c15 : x15_1 < ((rd_L1 l0 x22_2).length : Int)
               ·rw [if_pos c15] at H
                have c15b0 : decide (x15_1 < ((rd_L1 l0 x22_2).length : Int)) = true := decide_eq_true c15
                clear c15
                by_cases c16 : (rd_L1 x5_2 x15_1).length < 17592186044416
                ·rw [if_pos c16] at H
                 have LMc16 := Aside0.mk c16
                 clear c16
                 obtain ⟨y130, hy130⟩ : ∃ y_ : List Int, y_ = ((rd_L1 x5_2 x15_1) ++ [rd (rd_L1 l0 x22_2) x15_1]) := ⟨_, rfl⟩
                 replace H : (linear_turned.l1 k2 l0 (x5_2.set (x15_1 : Int).toNat y130) x15_1 (rd l1 x15_1) l1 (l1.length : Int) x15_1 l0 (l0.length : Int) (wrap64 (x22_2 + 1))) = some r := by first | (rw [hy130]; with_reducible exact H) | (have H2_ := (Option.bind_some _ _).symm.trans H; rw [hy130]; with_reducible exact H2_) | (have H2_ := (Option.bind_some _ _).symm.trans H; with_reducible exact H2_) | with_reducible exact H | (rw [hy130]; exact H) | exact H
                 have Ny130 := Aside0.mk hy130
                 clear hy130
                 obtain ⟨y133, hy133⟩ : ∃ y_ : List (List Int), y_ = (x5_2.set (x15_1 : Int).toNat y130) := ⟨_, rfl⟩
                 replace H : (linear_turned.l1 k2 l0 y133 x15_1 (rd l1 x15_1) l1 (l1.length : Int) x15_1 l0 (l0.length : Int) (wrap64 (x22_2 + 1))) = some r := by first | (rw [hy133]; with_reducible exact H) | (have H2_ := (Option.bind_some _ _).symm.trans H; rw [hy133]; with_reducible exact H2_) | (have H2_ := (Option.bind_some _ _).symm.trans H; with_reducible exact H2_) | with_reducible exact H | (rw [hy133]; exact H) | exact H
                 have Ny133 := Aside0.mk hy133
                 clear hy133
                 have H' := Aside0.mk H
                 clear H
                 have p127 : 0 ≤ (x22_2 : Int) := of_decide_eq_true (by first | (with_reducible assumption) | assumption)
                 have q127 : x22_2 < (l0.length : Int) := of_decide_eq_true (by first | (with_reducible assumption) | assumption)
                 obtain ⟨ad127, A127_0, c127_0, e127, hx127_0, hl127_0, hi127_0⟩ := at_L1 HR0.out x22_2 p127 q127
                 cases e127
                 replace hx127_0 := (HB.out.cell (World.block_lt_of_cell? w _ hx127_0)).trans hx127_0
                 have HR127_0 := Aside0.mk hi127_0
                 have HC127_0 := Aside0.mk hl127_0
                 clear hi127_0 hl127_0
                 replace p127 := eq_true p127
                 replace q127 := eq_true q127
                 try go_wp2
                 have n0_ := Aside0.mk (Kd.S_drew HO_5.out)
                 have n1_ := Aside0.mk (below_drew1 HB.out)
                 clear HO_5
                 clear HB
                 have HO_5 := n0_
                 have HB := n1_
                 clear n0_ n1_
                 obtain ⟨Ao19, co19, eo19⟩ := Kd.S_slice HO_5.out
                 (first | subst eo19 | (injection eo19 with f1_ f2_ f3_; have f4_ := f1_.symm; have f5_ := f3_.symm; clear f1_ f2_ f3_; subst f4_; subst f5_))
                 have p128 : 0 ≤ (x15_1 : Int) := of_decide_eq_true (by first | (with_reducible assumption) | assumption)
                 have q128 : x15_1 < (x5_2.length : Int) := of_decide_eq_true (by first | (with_reducible assumption) | assumption)
                 obtain ⟨ad128, A128_0, c128_0, e128, hx128_0, hl128_0, hi128_0⟩ := at_L1 (Kd.S_reads' HO_5.out).2.2 x15_1 p128 q128
                 cases e128
                 obtain ⟨ce128, hce128, hMe128, hcc128⟩ := Kd.S_get HO_5.out [] x15_1 p128 (by first | exact q128 | exact of_decide_eq_true (by first | (with_reducible assumption) | assumption) | (have e_ := (Kd.S_reads' HO_5.out).1; omega))
                 obtain ⟨ve128_0, rfl, ge128_0⟩ := hMe128
                 have hv128_0 := hcc128 0 _ rfl
                 rw [Nat.add_zero, show ((Kd.slice 3 (Kd.int .i64))).sz = 1 from rfl, Nat.mul_one] at hv128_0
                 replace hv128_0 := Option.some.inj (hv128_0.symm.trans hx128_0)
                 rw [hv128_0] at ge128_0
                 have HL128_0 := Aside0.mk (show Kd.R (Kd.int .i64) 3 _ _ _ _ (rd_L1 x5_2 x15_1) from ge128_0)
                 clear hv128_0 ge128_0
                 have HX128_0 := Aside0.mk hx128_0
                 clear hcc128 hce128
                 have HR128_0 := Aside0.mk hi128_0
                 have HC128_0 := Aside0.mk hl128_0
                 clear hi128_0 hl128_0
                 replace p128 := eq_true p128
                 replace q128 := eq_true q128
                 have p129 : 0 ≤ (x15_1 : Int) := of_decide_eq_true (by first | (with_reducible assumption) | assumption)
                 have q129 : x15_1 < ((rd_L1 l0 x22_2).length : Int) := of_decide_eq_true (by first | (with_reducible assumption) | assumption)
                 obtain ⟨ad129, e129, hx129_0⟩ := Kd.at_int HR127_0.out x15_1 p129 q129
                 have hw129_0 := hx129_0
                 cases e129
                 replace hx129_0 := (HB.out.cell (World.block_lt_of_cell? w _ hx129_0)).trans hx129_0
                 replace p129 := eq_true p129
                 replace q129 := eq_true q129
                 obtain ⟨go20, co20, eo20, gb20, gl20, cl20, HG20⟩ := Kd.S_form HO_5.out (by have h_ : (x15_1 : Int) < ((x5_2.length : Int) : Int) := of_decide_eq_true (by first | (with_reducible assumption) | assumption); have h2_ : 0 ≤ (x15_1 : Int) := (of_decide_eq_true (by first | (with_reducible assumption) | assumption)); omega)
                 (first | cases eo20 | (injection eo20 with ea_ en_ ec_; (first | subst ea_ | (injection ea_ with ea_; subst ea_)); subst ec_; clear en_))
                 have GB20 := Aside0.mk gb20
                 have GG20 := Aside0.mk HG20
                 clear gb20 gl20 HG20
                 (first | simp only [add_plain] at hx128_0 | skip)
                 obtain ⟨oki20, ce20, hcl20, hM20, hcc20, _, _, hH20⟩ := Kd.S_elem HO_5.out [] (x15_1 : Int) (of_decide_eq_true (by first | (with_reducible assumption) | assumption)) (by have h_ : (x15_1 : Int) < ((x5_2.length : Int) : Int) := of_decide_eq_true (by first | (with_reducible assumption) | assumption); first | exact h_ | (have e_ := (Kd.S_reads' HO_5.out).1; omega) | simpa using h_)
                 obtain ⟨ve20_0, rfl, ge20_0⟩ := hM20
                 have hv20 := hcc20 0 _ rfl
                 have hX20 := HX128_0.out
                 (try simp only [add_plain] at hX20)
                 (try simp only [Nat.add_zero] at hv20)
                 (try rw [show ((Kd.slice 3 (Kd.int .i64))).sz = 1 from rfl, Nat.mul_one] at hv20)
                 replace hv20 := Option.some.inj (hv20.symm.trans hX20)
                 subst hv20
                 clear hX20 hcc20 hcl20
                 have UU20 := Aside0.mk (show Kd.R (Kd.int .i64) 3 _ w.heap.size oki20 (.slice A128_0 (rd_L1 x5_2 x15_1).length c128_0) (rd_L1 x5_2 x15_1) from ge20_0)
                 have HH20 := Aside0.mk hH20
                 have HN20 := Aside0.mk (Kd.S_reads' HO_5.out).1
                 clear hH20 ge20_0
                 refine start_ (n := 14) (S := fun w' => w'.cell? ⟨go20, (x15_1).toNat, none⟩ = some (.slice A128_0 (rd_L1 x5_2 x15_1).length c128_0) ∧ w'.cell? (ad129.add (x15_1).toNat) = some (.int .i64 (rd (rd_L1 l0 x22_2) x15_1))) (ds := [13]) #[false, false, false, false, false, false, false, false, false, false, false, false, false, false] (by kernel_rfl) rfl rfl ⟨hx128_0, ((HB.out.cell (World.block_lt_of_cell? w _ hw129_0)).trans hw129_0)⟩ (fun hHeld => ?_); refine with_tabW linear_turned.tab8 linear_turned.bits8 (fun HT_ HW_ => ?_)
                 generalize wr.drew = w18 at HO_5 HB GG20 HH20 HL128_0 HR128_0 HX128_0 UU20 hx128_0 hx129_0 hHeld ⊢
                 refine pure_ (i := 0) (N := some 26) (v := ?_) (a' := ?_) #[true, false, false, false, false, false, false, false, false, false, false, false, false, false] rfl rfl (any_of HT_.out (by kernel_rfl)) (fun _ _ _ h => h) (Or.inl ⟨by rfl, ?_⟩) ?_ ?_
                 rotate_left
                 ·intro w'
                  go_simp
                  with_reducible rfl
                 rotate_left
                 ·simp only [Act.put, List.setIfInBounds_toArray, List.set_cons_zero, List.set_cons_succ, i64_w, i32_w]
                  rfl
                 refine pure_ (i := 1) (N := some 27) (v := ?_) (a' := ?_) #[true, true, false, false, false, false, false, false, false, false, false, false, false, false] rfl rfl (any_of HT_.out (by kernel_rfl)) (fun _ _ _ h => h) (Or.inl ⟨by rfl, ?_⟩) ?_ ?_
                 rotate_left
                 ·intro w'
                  go_simp
                  with_reducible rfl
                 rotate_left
                 ·simp only [Act.put, List.setIfInBounds_toArray, List.set_cons_zero, List.set_cons_succ, i64_w, i32_w]
                  rfl
                 refine pure_ (i := 2) (N := some 28) (v := ?_) (a' := ?_) #[true, true, true, false, false, false, false, false, false, false, false, false, false, false] rfl rfl (any_of HT_.out (by kernel_rfl)) (fun _ _ _ h => h) (Or.inl ⟨by rfl, ?_⟩) ?_ ?_
                 rotate_left
                 ·intro w'
                  go_simp
                  with_reducible rfl
                 rotate_left
                 ·simp only [Act.put, List.setIfInBounds_toArray, List.set_cons_zero, List.set_cons_succ, i64_w, i32_w]
                  rfl
                 refine pure_ (i := 3) (N := some 29) (v := ?_) (a' := ?_) #[true, true, true, true, false, false, false, false, false, false, false, false, false, false] rfl rfl (any_of HT_.out (by kernel_rfl)) (fun _ _ _ h => h) (Or.inl ⟨by rfl, ?_⟩) ?_ ?_
                 rotate_left
                 ·intro w'
                  go_simp
                  with_reducible rfl
                 rotate_left
                 ·simp only [Act.put, List.setIfInBounds_toArray, List.set_cons_zero, List.set_cons_succ, i64_w, i32_w]
                  rfl
                 refine pure_ (i := 4) (N := some 30) (v := ?_) (a' := ?_) #[true, true, true, true, true, false, false, false, false, false, false, false, false, false] rfl rfl (any_of HT_.out (by kernel_rfl)) (fun _ _ _ h => h) (Or.inl ⟨by rfl, ?_⟩) ?_ ?_
                 rotate_left
                 ·intro w'
                  go_simp
                  with_reducible rfl
                 rotate_left
                 ·simp only [Act.put, List.setIfInBounds_toArray, List.set_cons_zero, List.set_cons_succ, i64_w, i32_w]
                  rfl
                 refine pure_ (i := 6) (N := some 32) (v := ?_) (a' := ?_) #[true, true, true, true, true, false, true, false, false, false, false, false, false, false] rfl rfl (any_of HT_.out (by kernel_rfl)) (fun _ _ _ h => h) (Or.inl ⟨by rfl, ?_⟩) ?_ ?_
                 rotate_left
                 ·intro w'
                  go_simp
                  with_reducible rfl
                 rotate_left
                 ·simp only [Act.put, List.setIfInBounds_toArray, List.set_cons_zero, List.set_cons_succ, i64_w, i32_w]
                  rfl
                 refine pure_ (i := 7) (N := some 33) (v := ?_) (a' := ?_) #[true, true, true, true, true, false, true, true, false, false, false, false, false, false] rfl rfl (any_of HT_.out (by kernel_rfl)) (fun _ _ _ h => h) (Or.inl ⟨by rfl, ?_⟩) ?_ ?_
                 rotate_left
                 ·intro w'
                  go_simp
                  with_reducible rfl
                 rotate_left
                 ·simp only [Act.put, List.setIfInBounds_toArray, List.set_cons_zero, List.set_cons_succ, i64_w, i32_w]
                  rfl
                 refine pure_ (i := 8) (N := some 34) (v := ?_) (a' := ?_) #[true, true, true, true, true, false, true, true, true, false, false, false, false, false] rfl rfl (any_of HT_.out (by kernel_rfl)) (fun _ _ _ h => h) (Or.inl ⟨by rfl, ?_⟩) ?_ ?_
                 rotate_left
                 ·intro w'
                  go_simp
                  with_reducible rfl
                 rotate_left
                 ·simp only [Act.put, List.setIfInBounds_toArray, List.set_cons_zero, List.set_cons_succ, i64_w, i32_w]
                  rfl
                 refine take_ (i := 5) (N := some 31) (v := ?_) (a' := ?_) #[true, true, true, true, true, true, true, true, true, false, false, false, false, false] rfl rfl (take_ofW HT_.out HW_.out (by kernel_rfl)) (fun _ _ _ h => h) (Or.inl ⟨by rfl, ?_⟩) hHeld ?_ ?_
                 rotate_left
                 ·rintro w' ⟨s0, s1⟩
                  go_simp
                  with_reducible rfl
                 rotate_left
                 ·simp only [Act.put, List.setIfInBounds_toArray, List.set_cons_zero, List.set_cons_succ, i64_w, i32_w]
                  rfl
                 refine take_ (i := 9) (N := some 35) (v := ?_) (a' := ?_) #[true, true, true, true, true, true, true, true, true, true, false, false, false, false] rfl rfl (take_ofW HT_.out HW_.out (by kernel_rfl)) (fun _ _ _ h => h) (Or.inl ⟨by rfl, ?_⟩) hHeld ?_ ?_
                 rotate_left
                 ·rintro w' ⟨s0, s1⟩
                  go_simp
                  with_reducible rfl
                 rotate_left
                 ·simp only [Act.put, List.setIfInBounds_toArray, List.set_cons_zero, List.set_cons_succ, i64_w, i32_w]
                  rfl
                 refine one_ (i := 10) (N := some 36) #[true, true, true, true, true, true, true, true, true, true, true, false, false, false] rfl rfl (one_of HT_.out (by kernel_rfl)) (by decide) (fun K hK => ?_)
                 refine value_ (w1 := ?_) (v := ?_) (by rfl) rfl ?_ ?_
                 rotate_left 2
                 ·go_simp
                  constructor
                  ·rfl
                  ·rfl
                 refine hK.out _ _ ⟨(World.cell?_alloc_lt _ _ _ (World.block_lt_of_cell? _ _ (hHeld.1))).trans (hHeld.1), (World.cell?_alloc_lt _ _ _ (World.block_lt_of_cell? _ _ (((HB.out.cell (World.block_lt_of_cell? w _ hw129_0)).trans hw129_0)))).trans (((HB.out.cell (World.block_lt_of_cell? w _ hw129_0)).trans hw129_0))⟩ (fun hHeld => ?_)
                 clear hK K
                 refine norm_ (a' := ?_) ?_ ?_
                 rotate_left
                 ·show Act.put _ (some 36) _ = _
                  simp only [Act.put, List.setIfInBounds_toArray, List.set_cons_zero, List.set_cons_succ, i64_w, i32_w]
                  rfl
                 refine one_ (i := 11) (N := some 37) #[true, true, true, true, true, true, true, true, true, true, true, true, false, false] rfl rfl (one_of HT_.out (by kernel_rfl)) (by decide) (fun K hK => ?_)
                 refine Kd.R_append_step (Kd.int .i64) (w0 := w) w.heap.size (by rfl) (.tmp 31) (.tmp 36) 23 3 (.int .i64 0) 8 rfl Try.underlying23 info3 rfl (by decide) (by omega) (.slice A128_0 (rd_L1 x5_2 x15_1).length c128_0) (rd_L1 x5_2 x15_1) (rd (rd_L1 l0 x22_2) x15_1) [.int .i64 (rd (rd_L1 l0 x22_2) x15_1)] (fun k_ => oki20 k_ ∨ ((fun _ => True)) k_ ∧ w18.heap.size ≤ k_) (fun _ => False) rfl rfl ?aP (fun _ hk => hk.elim) ?aF ?aO ?aB ?aS ?aL ?_
                 (case aP => exact rfl)
                 (case aB => exact (by repeat (first | (with_reducible first | exact HB.out | apply below_alloc | apply pw_below_drewN | apply below_drew1) | exact HB.out)))
                 (case aF => exact (fun k_ hk => .inr ⟨trivial, hk⟩))
                 (case aO => exact (by (with_reducible repeat (first | apply Kd.R_alloc | apply Kd.R_drewN | apply Kd.R_drew)); exact Kd.R_mono UU20.out (fun _ hk => .inl hk)))
                 (case aS => exact (below_size (by repeat (first | (with_reducible first | exact HB.out | apply below_alloc | apply pw_below_drewN | apply below_drew1) | exact HB.out))))
                 (case aL => have := LMc16.out; omega)
                 intro v131 w21 ho hb hg hat
                 (first | have HS0_ := cell_grown hg (hHeld.1) (by first | (rw [add_block]; exact (fun e_ => ((HL128_0.out.1 _ e_.symm).2) rfl)) | (show some (Addr.add _ _).block ≠ _; rw [add_block]; exact (fun e_ => ((HL128_0.out.1 _ e_.symm).2) rfl)) | exact (fun e_ => ((HL128_0.out.1 _ e_.symm).2) rfl)) | have HS0_ := cell_grown hg (cell_unalloc (hHeld.1) (by first | (rw [add_block]; exact Kd.S_lt HO_5.out _ rfl) | (show (Addr.add _ _).block < _; rw [add_block]; exact Kd.S_lt HO_5.out _ rfl) | exact Kd.S_lt HO_5.out _ rfl)) (by first | (rw [add_block]; exact (fun e_ => ((HL128_0.out.1 _ e_.symm).2) rfl)) | (show some (Addr.add _ _).block ≠ _; rw [add_block]; exact (fun e_ => ((HL128_0.out.1 _ e_.symm).2) rfl)) | exact (fun e_ => ((HL128_0.out.1 _ e_.symm).2) rfl)))
                 rw [← Ny130.out] at ho
                 have n0_ := Aside0.mk (hb)
                 have n1_ := Aside0.mk (Kd.H_grown (Kd.H_widen (by repeat (first | exact HH20.out | refine Kd.H_alloc ?_ _ | refine Kd.H_drewN ?_ _ | refine Kd.H_drew ?_))) hg (fun k_ e_ => .inl (UU20.out.1 k_ e_)))
                 have n2_ := Aside0.mk (ho)
                 clear HB
                 clear HH20
                 clear HO_5
                 clear UU20
                 clear HL128_0
                 have HB := n0_
                 have HH20 := n1_
                 have HO132 := n2_
                 clear n0_ n1_ n2_
                 clear ho hb hg hat
                 have p17 : 0 ≤ (x15_1 : Int) := of_decide_eq_true (by first | (with_reducible assumption) | assumption)
                 have q17 : (x15_1 : Int) < ((x5_2.length : Int) : Int) := of_decide_eq_true (by first | (with_reducible assumption) | assumption)
                 replace p17 := eq_true p17
                 replace q17 := eq_true q17
                 obtain ⟨Ao24, co24, eo24⟩ := Kd.R_slice HO132.out
                 (first | subst eo24 | (injection eo24 with f1_ f2_ f3_; have f4_ := f1_.symm; have f5_ := f3_.symm; clear f1_ f2_ f3_; subst f4_; subst f5_))
                 obtain ⟨_, _, hraw22, _, _, hcc22, _⟩ := Kd.H_raw HH20.out (of_decide_eq_true (by first | (with_reducible assumption) | assumption)) (by have h_ : (x15_1 : Int) < ((x5_2.length : Int) : Int) := of_decide_eq_true (by first | (with_reducible assumption) | assumption); first | exact h_ | (have e_ := (HN20.out); omega) | simpa using h_)
                 obtain ⟨_, hfr22⟩ := Kd.H_at HH20.out (of_decide_eq_true (by first | (with_reducible assumption) | assumption)) (by have h_ : (x15_1 : Int) < ((x5_2.length : Int) : Int) := of_decide_eq_true (by first | (with_reducible assumption) | assumption); first | exact h_ | (have e_ := (HN20.out); omega) | simpa using h_)
                 have hx22_0 := hcc22 0 _ rfl
                 have hf22_0 := hfr22 0
                 (try simp only [Nat.add_zero] at hx22_0 hf22_0)
                 (try rw [show ((Kd.slice 3 (Kd.int .i64))).sz = 1 from rfl, Nat.mul_one] at hx22_0)
                 (try rw [show ((Kd.slice 3 (Kd.int .i64))).sz = 1 from rfl, Nat.mul_one] at hf22_0)
                 have HP22 := Kd.S_seg0 HH20.out (of_decide_eq_true (by first | (with_reducible assumption) | assumption)) (by have h_ : (x15_1 : Int) < ((x5_2.length : Int) : Int) := of_decide_eq_true (by first | (with_reducible assumption) | assumption); first | exact h_ | (have e_ := (HN20.out); omega) | simpa using h_) (seg := [.slice Ao24 y130.length co24]) (j := 0) (show 1 ≤ 1 from by decide) (x' := y130) (Kd.M_row HO132.out) (fun _ hk => hk)
                 (try simp only [show ((Kd.slice 3 (Kd.int .i64))).sz = 1 from rfl, Nat.mul_one, Nat.add_zero] at HP22)
                 clear hcc22 hfr22
                 have HS22 := HP22.1
                 rw [← Ny133.out] at HS22
                 have HQ22 := Aside0.mk HS22
                 obtain ⟨_, hgg22⟩ := Kd.R_typed hraw22 go20 rfl
                 have GG22_ := Aside0.mk hgg22
                 clear HP22 HS22 hgg22
                 refine hK.out _ _ ⟨HS0_, ((HB.out.cell (World.block_lt_of_cell? w _ hw129_0)).trans hw129_0)⟩ (fun hHeld => ?_)
                 clear hK K
                 refine norm_ (a' := ?_) ?_ ?_
                 rotate_left
                 ·show Act.put _ (some 37) _ = _
                  simp only [Act.put, List.setIfInBounds_toArray, List.set_cons_zero, List.set_cons_succ, i64_w, i32_w]
                  rfl
                 refine pure_ (i := 12) (N := some 38) (v := ?_) (a' := ?_) #[true, true, true, true, true, true, true, true, true, true, true, true, true, false] rfl rfl (any_of HT_.out (by kernel_rfl)) (fun _ _ _ h => h) (Or.inl ⟨by rfl, ?_⟩) ?_ ?_
                 rotate_left
                 ·intro w'
                  go_simp
                  with_reducible rfl
                 rotate_left
                 ·simp only [Act.put, List.setIfInBounds_toArray, List.set_cons_zero, List.set_cons_succ, i64_w, i32_w]
                  rfl
                 refine last_ (i := 13) (N := none) #[true, true, true, true, true, true, true, true, true, true, true, true, true, true] rfl rfl (one_of HT_.out (by kernel_rfl)) (by decide) (fun K hK => ?_)
                 refine skip_ (w1 := ?_) (by rfl) rfl ?_ ?_
                 rotate_left
                 ·go_simp
                  rfl
                 refine hK.out _ _ ?_
                 clear hK K
                 refine done_ (done_of HT_.out (by kernel_rfl)) ?_
                 try go_wp2
                 go_roundg k2
                 case measure => have := HK1.out; have := HK2.out; omega
                 case rel => exact ⟨(y133), (wrap64 (x22_2 + 1)), (by first | rfl | (simp; done) | (simp [*]; done)), H', ⟨by have := HK1.out; have := HK2.out; omega⟩, ⟨by (with_reducible repeat (first | apply Kd.S_alloc | apply Kd.S_drewN | apply Kd.S_drew)); exact HQ22.out⟩, ⟨by repeat (first | (with_reducible first | exact HB.out | apply below_alloc | apply pw_below_drewN | apply below_drew1 | refine below_set ?_ GB20.out) | exact HB.out)⟩⟩
                ·rw [if_neg c16] at H
                 exact absurd H (by simp)
               ·rw [if_neg c15] at H
                exact absurd H (by simp)
              ·rw [if_neg c14] at H
               exact absurd H (by simp)
             ·rw [if_neg c13] at H
              exact absurd H (by simp)
            ·rw [if_neg c12] at H
             exact absurd H (by simp)
           ·rw [if_neg c11] at H
            exact absurd H (by simp)
          ·rw [if_neg c10] at H
           have c10b0 : decide (x22_2 < (l0.length : Int)) = false := decide_eq_false c10
           clear c10
           by_cases c25 : 0 ≤ x15_1
           ·rw [if_pos c25] at H
            have c25b0 : decide (0 ≤ x15_1) = true := decide_eq_true c25
            clear c25
            by_cases c26 : x15_1 < (x5_2.length : Int)
            ·rw [if_pos c26] at H
             have c26b0 : decide (x15_1 < (x5_2.length : Int)) = true := decide_eq_true c26
             clear c26
             by_cases c27 : (rd_L1 x5_2 x15_1).length < 17592186044416
             ·rw [if_pos c27] at H
              have LMc27 := Aside0.mk c27
              clear c27
              obtain ⟨y135, hy135⟩ : ∃ y_ : List Int, y_ = ((rd_L1 x5_2 x15_1) ++ [(rd l1 x15_1)]) := ⟨_, rfl⟩
              replace H : (linear_turned.l0 k2 l0 (x5_2.set (x15_1 : Int).toNat y135) l1 (l1.length : Int) (wrap64 (x15_1 + 1))) = some r := by first | (rw [hy135]; with_reducible exact H) | (have H2_ := (Option.bind_some _ _).symm.trans H; rw [hy135]; with_reducible exact H2_) | (have H2_ := (Option.bind_some _ _).symm.trans H; with_reducible exact H2_) | with_reducible exact H | (rw [hy135]; exact H) | exact H
              have Ny135 := Aside0.mk hy135
              clear hy135
              obtain ⟨y138, hy138⟩ : ∃ y_ : List (List Int), y_ = (x5_2.set (x15_1 : Int).toNat y135) := ⟨_, rfl⟩
              replace H : (linear_turned.l0 k2 l0 y138 l1 (l1.length : Int) (wrap64 (x15_1 + 1))) = some r := by first | (rw [hy138]; with_reducible exact H) | (have H2_ := (Option.bind_some _ _).symm.trans H; rw [hy138]; with_reducible exact H2_) | (have H2_ := (Option.bind_some _ _).symm.trans H; with_reducible exact H2_) | with_reducible exact H | (rw [hy138]; exact H) | exact H
              have Ny138 := Aside0.mk hy138
              clear hy138
              have H' := Aside0.mk H
              clear H
              obtain ⟨Ao29, co29, eo29⟩ := Kd.S_slice HO_5.out
              subst eo29
              have p134 : 0 ≤ (x15_1 : Int) := of_decide_eq_true (by first | (with_reducible assumption) | assumption)
              have q134 : x15_1 < (x5_2.length : Int) := of_decide_eq_true (by first | (with_reducible assumption) | assumption)
              obtain ⟨ad134, A134_0, c134_0, e134, hx134_0, hl134_0, hi134_0⟩ := at_L1 (Kd.S_reads' HO_5.out).2.2 x15_1 p134 q134
              cases e134
              obtain ⟨ce134, hce134, hMe134, hcc134⟩ := Kd.S_get HO_5.out [] x15_1 p134 (by first | exact q134 | exact of_decide_eq_true (by first | (with_reducible assumption) | assumption) | (have e_ := (Kd.S_reads' HO_5.out).1; omega))
              obtain ⟨ve134_0, rfl, ge134_0⟩ := hMe134
              have hv134_0 := hcc134 0 _ rfl
              rw [Nat.add_zero, show ((Kd.slice 3 (Kd.int .i64))).sz = 1 from rfl, Nat.mul_one] at hv134_0
              replace hv134_0 := Option.some.inj (hv134_0.symm.trans hx134_0)
              rw [hv134_0] at ge134_0
              have HL134_0 := Aside0.mk (show Kd.R (Kd.int .i64) 3 _ _ _ _ (rd_L1 x5_2 x15_1) from ge134_0)
              clear hv134_0 ge134_0
              have HX134_0 := Aside0.mk hx134_0
              clear hcc134 hce134
              have HR134_0 := Aside0.mk hi134_0
              have HC134_0 := Aside0.mk hl134_0
              clear hi134_0 hl134_0
              replace p134 := eq_true p134
              replace q134 := eq_true q134
              obtain ⟨go30, co30, eo30, gb30, gl30, cl30, HG30⟩ := Kd.S_form HO_5.out (by have h_ : (x15_1 : Int) < ((x5_2.length : Int) : Int) := of_decide_eq_true (by first | (with_reducible assumption) | assumption); have h2_ : 0 ≤ (x15_1 : Int) := (of_decide_eq_true (by first | (with_reducible assumption) | assumption)); omega)
              (first | cases eo30 | (injection eo30 with ea_ en_ ec_; (first | subst ea_ | (injection ea_ with ea_; subst ea_)); subst ec_; clear en_))
              have GB30 := Aside0.mk gb30
              have GG30 := Aside0.mk HG30
              clear gb30 gl30 HG30
              (first | simp only [add_plain] at hx134_0 | skip)
              obtain ⟨oki30, ce30, hcl30, hM30, hcc30, _, _, hH30⟩ := Kd.S_elem HO_5.out [] (x15_1 : Int) (of_decide_eq_true (by first | (with_reducible assumption) | assumption)) (by have h_ : (x15_1 : Int) < ((x5_2.length : Int) : Int) := of_decide_eq_true (by first | (with_reducible assumption) | assumption); first | exact h_ | (have e_ := (Kd.S_reads' HO_5.out).1; omega) | simpa using h_)
              obtain ⟨ve30_0, rfl, ge30_0⟩ := hM30
              have hv30 := hcc30 0 _ rfl
              have hX30 := HX134_0.out
              (try simp only [add_plain] at hX30)
              (try simp only [Nat.add_zero] at hv30)
              (try rw [show ((Kd.slice 3 (Kd.int .i64))).sz = 1 from rfl, Nat.mul_one] at hv30)
              replace hv30 := Option.some.inj (hv30.symm.trans hX30)
              subst hv30
              clear hX30 hcc30 hcl30
              have UU30 := Aside0.mk (show Kd.R (Kd.int .i64) 3 _ w.heap.size oki30 (.slice A134_0 (rd_L1 x5_2 x15_1).length c134_0) (rd_L1 x5_2 x15_1) from ge30_0)
              have HH30 := Aside0.mk hH30
              have HN30 := Aside0.mk (Kd.S_reads' HO_5.out).1
              clear hH30 ge30_0
              go_wp2_with (first | ((with_reducible refine gate_builtin (b := .append) (xs := #[.tmp 45, .tmp 47]) rfl ?_); at_builtin; refine Kd.R_append (Kd.int .i64) (w0 := w) w.heap.size rfl (.tmp 45) (.tmp 47) 23 3 (.int .i64 0) 8 rfl Try.underlying23 info3 rfl (by decide) (by omega) (.slice A134_0 (rd_L1 x5_2 x15_1).length c134_0) (rd_L1 x5_2 x15_1) (rd l1 x15_1) [.int .i64 (rd l1 x15_1)] (fun k_ => oki30 k_ ∨ ((fun _ => True)) k_ ∧ wr.heap.size ≤ k_) (fun _ => False) rfl rfl ?aP (fun _ hk => hk.elim) ?aF ?aO ?aB ?aS ?aL ?_; (case aP => exact rfl); (case aB => exact (by repeat (first | (with_reducible first | exact HB.out | apply below_alloc | apply pw_below_drewN | apply below_drew1) | exact HB.out))); (case aF => exact (fun k_ hk => .inr ⟨trivial, hk⟩)); (case aO => exact (by (with_reducible repeat (first | apply Kd.R_alloc | apply Kd.R_drewN | apply Kd.R_drew)); exact Kd.R_mono UU30.out (fun _ hk => .inl hk))); (case aS => exact (below_size (by repeat (first | (with_reducible first | exact HB.out | apply below_alloc | apply pw_below_drewN | apply below_drew1) | exact HB.out)))); (case aL => have := LMc27.out; omega); intro v136 w31 ho hb hg hat; rw [← Ny135.out] at ho; have n0_ := Aside0.mk (hb); have n1_ := Aside0.mk (Kd.H_grown (Kd.H_widen (by repeat (first | exact HH30.out | refine Kd.H_alloc ?_ _ | refine Kd.H_drewN ?_ _ | refine Kd.H_drew ?_))) hg (fun k_ e_ => .inl (UU30.out.1 k_ e_))); have n2_ := Aside0.mk (ho); clear HB; clear HH30; clear HO_5; clear UU30; clear HL134_0; have HB := n0_; have HH30 := n1_; have HO137 := n2_; clear n0_ n1_ n2_; clear ho hb hg hat; have p28 : 0 ≤ (x15_1 : Int) := of_decide_eq_true (by first | (with_reducible assumption) | assumption); have q28 : (x15_1 : Int) < ((x5_2.length : Int) : Int) := of_decide_eq_true (by first | (with_reducible assumption) | assumption); replace p28 := eq_true p28; replace q28 := eq_true q28; obtain ⟨Ao34, co34, eo34⟩ := Kd.R_slice HO137.out; subst eo34; obtain ⟨_, _, hraw32, _, _, hcc32, _⟩ := Kd.H_raw HH30.out (of_decide_eq_true (by first | (with_reducible assumption) | assumption)) (by have h_ : (x15_1 : Int) < ((x5_2.length : Int) : Int) := of_decide_eq_true (by first | (with_reducible assumption) | assumption); first | exact h_ | (have e_ := (HN30.out); omega) | simpa using h_); obtain ⟨_, hfr32⟩ := Kd.H_at HH30.out (of_decide_eq_true (by first | (with_reducible assumption) | assumption)) (by have h_ : (x15_1 : Int) < ((x5_2.length : Int) : Int) := of_decide_eq_true (by first | (with_reducible assumption) | assumption); first | exact h_ | (have e_ := (HN30.out); omega) | simpa using h_); have hx32_0 := hcc32 0 _ rfl; have hf32_0 := hfr32 0; (try simp only [Nat.add_zero] at hx32_0 hf32_0); (try rw [show ((Kd.slice 3 (Kd.int .i64))).sz = 1 from rfl, Nat.mul_one] at hx32_0); (try rw [show ((Kd.slice 3 (Kd.int .i64))).sz = 1 from rfl, Nat.mul_one] at hf32_0); have HP32 := Kd.S_seg0 HH30.out (of_decide_eq_true (by first | (with_reducible assumption) | assumption)) (by have h_ : (x15_1 : Int) < ((x5_2.length : Int) : Int) := of_decide_eq_true (by first | (with_reducible assumption) | assumption); first | exact h_ | (have e_ := (HN30.out); omega) | simpa using h_) (seg := [.slice Ao34 y135.length co34]) (j := 0) (show 1 ≤ 1 from by decide) (x' := y135) (Kd.M_row HO137.out) (fun _ hk => hk); (try simp only [show ((Kd.slice 3 (Kd.int .i64))).sz = 1 from rfl, Nat.mul_one, Nat.add_zero] at HP32); clear hcc32 hfr32) | ((with_reducible refine gate_store (t := 23) (p := 49) rfl ?_); refine store_event (t := 23) (p := 49) (v := ?vo_w33) (w1 := (w31.setCell ⟨go30, (x15_1 : Int).toNat, none⟩ (.slice Ao34 y135.length co34))) ?hg ?ho ?hn ?hr ?_; (case ho => rfl); (case hg => rfl); (case hn => rfl); (case hr => first | (go_simp; done) | (go_simp; rfl)); intro w33 hw; have hg : w31.grownBy w33 (some go30) := (by rw [hw]; exact HP32.2); have hp_ : Kd.S (Kd.slice 3 (Kd.int .i64)) 23 w33 w.heap.size (fun _ => True) (.slice (some ⟨go30, 0, none⟩) x5_2.length co29) y138 := (by rw [hw, Ny138.out]; exact HP32.1); clear HP32; have n0_ := Aside0.mk ((by rw [hw]; exact below_set HB.out GB30.out : Below w.heap.size w w33)); have n1_ := Aside0.mk (hp_); clear HB; clear HO137; clear HH30; have HB := n0_; have HO_5 := n1_; clear n0_ n1_; clear hg hw hp_ hraw32))
              go_roundg k2
              case measure => have := HK1.out; have := HK2.out; omega
              case rel => exact ⟨(y138), (wrap64 (x15_1 + 1)), (by first | rfl | (simp; done) | (simp [*]; done)), H', ⟨by have := HK1.out; have := HK2.out; omega⟩, ⟨by (with_reducible repeat (first | apply Kd.S_alloc | apply Kd.S_drewN | apply Kd.S_drew)); exact HO_5.out⟩, ⟨by repeat (first | (with_reducible first | exact HB.out | apply below_alloc | apply pw_below_drewN | apply below_drew1) | exact HB.out)⟩⟩
             ·rw [if_neg c27] at H
              exact absurd H (by simp)
            ·rw [if_neg c26] at H
             exact absurd H (by simp)
           ·rw [if_neg c25] at H
            exact absurd H (by simp)
       ·rw [if_neg c9] at H
        exact absurd H (by simp)
      ·rw [if_neg c8] at H
       exact absurd H (by simp)
     ·rw [if_neg c7] at H
      have c7b0 : decide (x15_1 < (l1.length : Int)) = false := decide_eq_false c7
      clear c7
      obtain rfl := Option.some.inj H
      go_wp2
      go_ret
      exact ⟨_, by first | rfl | (simp [errW_none, errW_some] <;> rfl) | (simp [*, errW_none, errW_some] <;> rfl), by (with_reducible repeat (first | apply Kd.S_alloc | apply Kd.S_drewN | apply Kd.S_drew)); exact HO_5.out, by repeat (first | (with_reducible first | exact HB.out | apply below_alloc | apply pw_below_drewN | apply below_drew1) | exact HB.out)⟩
  ·rw [if_neg c4] at H
   exact absurd H (by simp)
 ·rw [if_neg c3] at H
  exact absurd H (by simp)
end Go.Proofs.Ytdbamhckgaoibaa.P
namespace Go.Proofs.Ytdbamhckgaoibaa.P
open Go.RowKit Go.Proofs.YtdbamhckgaoibaaW.PrintWords Go.Proofs.YtdbamhckgaoibaaW.PrintLast Go.Proofs.YtdbamhckgaoibaaW.PrintMore
set_option linter.unusedVariables false
set_option linter.unusedSimpArgs false
theorem need_c (n : Int) (w : World) : Calls Try.prog 182 #[.bool true, .int .i64 n] w fun e w' => e = .returned (.tuple #[]) ∧ w = w' := by
  go_enter Try.func182, Try.ntmps182
  go_wp2
  go_end0
  exact ⟨rfl, rfl⟩
theorem caught_idle (p : Addr) (w : World) : CallsD Try.prog 117 #[.pointer (some p)] .returning w fun e u' w' => e = .returned (.tuple #[]) ∧ u' = .returning ∧ w' = w := by
  refine callsD_of_wpS Try.func117 rfl fun c₀ cs hu => ?_
  apply wpS_seq
  apply wpS_region
  simp [wpOpsS, go_sem, recoverD, hu, Try.ntmps117, Exit.thenS]
  apply wpS_seq
  apply wpS_region
  simp [wpOpsS, go_sem, recoverD, hu, Try.ntmps117, Exit.thenS]
  refine wpS_cond (t := false) (by simp [Act.eval, Array.replicate]) ?_
  simp only [Bool.false_eq_true, if_false]
  refine wpS_of_wp (wp_skip ?_)
  cases c₀
  simp_all [bodyPostS, results, Try.results117]
theorem rd_row {l : List (List Int)} {j : Nat} (hlt : j < l.length) : rd_L1 l (j : Int) = l[j] := by
  unfold rd_L1
  rw [Int.toNat_natCast, List.getD_eq_getElem?_getD, List.getElem?_eq_getElem hlt]; rfl
theorem outQ_inF {l : List Int} (h : ∀ x ∈ l, Sig.InF x) : l.any outQ = false := by
  rw [List.any_eq_false]
  intro x hx
  have := h x hx
  unfold Sig.InF at this
  simp [outQ]
  omega
set_option maxHeartbeats 1000000 in
theorem check_c (A0 : Option Addr) (c0 : Nat) (l : List (List Int)) (n : Nat) (w : World) (hr : Kd.C (Kd.slice 3 (Kd.int .i64)) w A0 l.length l) (hR : Sig.Rect l n) (hn : n ≤ 64) :
    Calls Try.prog 183 #[.slice A0 l.length c0] w fun e w' => e = .returned (.tuple #[]) ∧ Drawn0 w w' := by
  have HR := Aside0.mk hr
  have HRT := Aside0.mk hR
  have hlen : l.length ≤ 9223372036854775807 := hr.2.1
  clear hr hR
  go_enter Try.func183, Try.ntmps183
  go_wp2
  go_loopg [9] l.length (fun gk v9 w' => ∃ j : Nat, j + gk = l.length ∧ v9 = .int .i64 (j : Int) ∧ Drawn0 w w')
  case atStart => exact ⟨0, by omega, rfl, by repeat (first | exact Drawn0.refl _ | apply Drawn0.step)⟩
  case round =>
    obtain ⟨j, hj, rfl, ⟨m, rfl⟩⟩ := hrel
    by_cases hlt : j < l.length
    · have c1 : decide ((j : Int) < (l.length : Int)) = true := decide_eq_true (by omega)
      have c2 : decide (j < l.length) = true := decide_eq_true hlt
      obtain ⟨ad, A1, c3, e, hx, hx2, hx3⟩ := at_L1 HR.out (j : Int) (by omega) (by omega)
      cases e
      rw [Int.toNat_natCast] at hx
      have hyl := (HRT.out _ (List.getElem_mem hlt)).1
      rw [rd_row hlt, hyl] at hx
      clear hx2 hx3
      have c4 : (0 : Int) ≤ (j : Int) := by omega
      have c5 : decide ((n : Int) ≤ 64) = true := decide_eq_true (by omega)
      clear hyl
      go_wp2_with (go_at_call 182; refine (need_c _ _).mono ?_; rintro e w' ⟨rfl, rfl⟩)
      go_roundg (gk - 1)
      case measure => omega
      case rel => exact ⟨j + 1, by omega, by go_num, by repeat (first | exact Drawn0.refl _ | apply Drawn0.step)⟩
    · have c1 : decide ((j : Int) < (l.length : Int)) = false := decide_eq_false (by omega)
      go_wp2
      go_loopg [20] l.length (fun gk v20 w' => ∃ j : Nat, j + gk = l.length ∧ v20 = .int .i64 (j : Int) ∧ Drawn0 w w')
      case atStart => exact ⟨0, by omega, rfl, by repeat (first | exact Drawn0.refl _ | apply Drawn0.step)⟩
      case round =>
        obtain ⟨i, hi, rfl, ⟨m2, rfl⟩⟩ := hrel
        clear c1 hlt hj
        by_cases hlt : i < l.length
        · have c1 : decide ((i : Int) < (l.length : Int)) = true := decide_eq_true (by omega)
          have c2 : decide (i < l.length) = true := decide_eq_true hlt
          obtain ⟨ad, A1, c3, e, hx, hx2, hx3⟩ := at_L1 HR.out (i : Int) (by omega) (by omega)
          have h0 : 0 < l.length := by omega
          obtain ⟨ad', A2, c3', e', hz, hz2, hz3⟩ := at_L1 HR.out ((0 : Nat) : Int) (by omega) (by omega)
          rw [e] at e'
          injection e' with e'
          subst e'
          cases e
          rw [Int.toNat_natCast] at hx hz
          have hyl := (HRT.out _ (List.getElem_mem hlt)).1
          have hy0 := (HRT.out _ (List.getElem_mem h0)).1
          rw [rd_row hlt] at hx hx2 hx3
          rw [rd_row h0, hy0] at hz
          rw [Addr.add_zero'] at hz
          have hq := outQ_inF (HRT.out _ (List.getElem_mem hlt)).2
          generalize l[i] = y at hx hx2 hx3 hyl hq
          have HX2 := Aside0.mk hx2
          have hx4 := hx3
          rw [hyl] at hx4
          have HX4 := Aside0.mk hx4
          clear hx4
          have HQ := Aside0.mk hq
          have hc := fun W (hC : Kd.C (Kd.int .i64) W A1 y.length y) => contains_oddL.calls A1 c3 y (y.any outQ) W hC hx2 rfl
          rw [hq, hyl] at hc
          rw [hyl] at hx
          have HC := Aside0.mk hc
          clear hx2 hx3 hz2 hz3 hq hc
          have c4 : (0 : Int) ≤ (i : Int) := by omega
          have c5 : (0 : Int) < (l.length : Int) := by omega
          have c6 : decide (0 < l.length) = true := decide_eq_true h0
          go_wp2_with (first | (go_at_call 161; refine (HC.out _ (Kd.C_below HX4.out (by repeat (first | exact Below.refl _ _ | apply pw_below_drewN | apply below_drew1)))).mono ?_; rintro e w' ⟨rfl, ⟨nd, rfl⟩⟩) | (go_at_call 182; refine (need_c _ _).mono ?_; rintro e w' ⟨rfl, rfl⟩))
          go_roundg (gk - 1)
          case measure => omega
          case rel => exact ⟨i + 1, by omega, by go_num, by repeat (first | exact Drawn0.refl _ | apply Drawn0.step)⟩
        · have c1 : decide ((i : Int) < (l.length : Int)) = false := decide_eq_false (by omega)
          go_wp2
          go_end0
          exact ⟨rfl, by repeat (first | exact Drawn0.refl _ | apply Drawn0.step)⟩
theorem C_rows_one {W : World} {A : Option Addr} {x : List Int} {c : Nat} (hx : Kd.C (Kd.int .i64) W A x.length x) (hc : x.length ≤ c) (b : Nat) (hb : W.cell? ⟨b, 0, none⟩ = some (.slice A x.length c)) :
    Kd.C (Kd.slice 3 (Kd.int .i64)) W (some ⟨b, 0, none⟩) 1 [x] := by
  refine ⟨rfl, by decide, fun _ => ⟨⟨b, 0, none⟩, rfl, fun j p hj => ?_⟩⟩
  have hj1 := (List.getElem?_eq_some_iff.1 hj).1
  obtain rfl : j = 0 := by simpa using hj1
  simp only [List.getElem?_cons_zero, Option.some.injEq] at hj
  subst hj
  refine ⟨[.slice A x.length c], rfl, ⟨A, c, rfl, hc, hx⟩, fun i u hu => ?_⟩
  have hi1 := (List.getElem?_eq_some_iff.1 hu).1
  obtain rfl : i = 0 := by simpa using hi1
  simp only [List.getElem?_cons_zero, Option.some.injEq] at hu
  subst hu
  exact hb
set_option maxHeartbeats 1000000 in
theorem examine_c (A0 : Option Addr) (c0 : Nat) (l : List (List Int)) (A1 : Option Addr) (c1 : Nat) (x : List Int) (w : World) (hr0 : Kd.C (Kd.slice 3 (Kd.int .i64)) w A0 l.length l) (hr1 : Kd.C (Kd.int .i64) w A1 x.length x) (hc1 : x.length ≤ c1)
    (hR : Sig.RectT l x) (hl : l.length ≤ 64) (hx : x.length ≤ 64) :
    Calls Try.prog 118 #[.slice A0 l.length c0, .slice A1 x.length c1] w fun e w' => e = .returned (.tuple #[]) ∧ Below w.heap.size w w' := by
  have c5 : decide ((l.length : Int) ≤ 64) = true := decide_eq_true (by omega)
  have HC1 := Aside0.mk (check_c A0 c0 l x.length w hr0 hR.1 hx)
  have HC2 := Aside0.mk (fun (W : World) (hb : Below w.heap.size w W) (b : Nat) (hcell : W.cell? ⟨b, 0, none⟩ = some (.slice A1 x.length c1)) => check_c (some ⟨b, 0, none⟩) 1 [x] x.length W (C_rows_one (Kd.C_below hr1 hb) hc1 b hcell) (fun row hrow => by
    rw [List.mem_singleton.1 hrow]; exact ⟨rfl, hR.2⟩) hx)
  have HR0 := Aside0.mk hr0
  have HRT := Aside0.mk hR
  by_cases h0 : 0 < l.length
  · obtain ⟨ad, A2, c2, e, hz, hz2, hz3⟩ := at_L1 hr0 ((0 : Nat) : Int) (by omega) (by omega)
    cases e
    have hyl := (hR.1 _ (List.getElem_mem h0)).1
    rw [rd_row h0, hyl, Int.toNat_natCast, Addr.add_zero'] at hz
    have hblt := World.block_lt_of_cell? w _ hz
    clear hr0 hr1 hR hz2 hz3 hyl hc1
    have c6 : ((l.length : Int) == 0) = false := beq_eq_false_iff_ne.2 (by omega)
    have c7 : (0 : Int) < (l.length : Int) := by omega
    have c8 : decide (0 < l.length) = true := decide_eq_true h0
    go_enter Try.func118, Try.ntmps118
    go_wp2_with (first | (go_at_call 182; refine (need_c _ _).mono ?_; rintro e w' ⟨rfl, rfl⟩) | (go_at_call 183; refine HC1.out.mono ?_; rintro e w' ⟨rfl, ⟨nd, rfl⟩⟩; clear HC1) | (go_at_call 183; refine (HC2.out _ (by exact (pw_below_drewN (Below.refl _ _) nd).alloc (Nat.le_refl _) _) _ (by exact (Bx.new (w.drewN nd) (.slice A1 x.length c1) 23).1)).mono ?_; rintro e w2 ⟨rfl, ⟨nd2, hw2⟩⟩; have hb2 : Below w.heap.size w w2 := (by rw [hw2]; exact pw_below_drewN ((pw_below_drewN (Below.refl _ _) nd).alloc (Nat.le_refl _) _) nd2); have HB2 := Aside0.mk hb2; replace hz := (hb2.cell hblt).trans hz; clear hw2 hb2 HC2))
    go_end0
    exact ⟨rfl, HB2.out⟩
  · have hl0 : l.length = 0 := by omega
    rw [hl0] at HC1 c5 ⊢
    clear hr0 hr1 hR HR0 HRT hc1
    go_enter Try.func118, Try.ntmps118
    go_wp2_with (first | (go_at_call 182; refine (need_c _ _).mono ?_; rintro e w' ⟨rfl, rfl⟩) | (go_at_call 183; refine HC1.out.mono ?_; rintro e w' ⟨rfl, ⟨nd, rfl⟩⟩; clear HC1) | (go_at_call 183; refine (HC2.out _ (by exact (pw_below_drewN (Below.refl _ _) nd).alloc (Nat.le_refl _) _) _ (by exact (Bx.new (w.drewN nd) (.slice A1 x.length c1) 23).1)).mono ?_; rintro e w2 ⟨rfl, ⟨nd2, hw2⟩⟩; have hb2 : Below w.heap.size w w2 := (by rw [hw2]; exact pw_below_drewN ((pw_below_drewN (Below.refl _ _) nd).alloc (Nat.le_refl _) _) nd2); have HB2 := Aside0.mk hb2; clear hw2 hb2 HC2))
    go_end0
    exact ⟨rfl, HB2.out⟩
theorem row_of {W : World} {base : Nat} {ok : Nat → Prop} {v : Value} {xs : List Int} (h : Kd.R (Kd.int .i64) 3 W base ok v xs) (hl : 0 < xs.length) :
    ∃ b c, v = .slice (some ⟨b, 0, none⟩) xs.length c ∧ xs.length ≤ c ∧ ok b ∧ base ≤ b ∧ b < W.heap.size ∧ RowAt W b xs := by
  obtain ⟨h0, inner, ho, hr⟩ := h
  rcases ho.2 with ⟨rfl, hn⟩ | ⟨g, cap, cur, rfl, hg, hh, hc1, hc2, hc3, hc4⟩
  · omega
  · refine ⟨g, cap, rfl, hc1, h0 g rfl, hg, (Array.getElem?_eq_some_iff.1 hh).1, fun j hj => ⟨?_, by simp [World.frozen?, hh]⟩⟩
    have hx : xs[j]? = some (xs.getD j 0) := by rw [List.getD_eq_getElem?_getD, List.getElem?_eq_getElem hj]; rfl
    have h1 : (inner.drop (j * 1)).take 1 = [.int .i64 (xs.getD j 0)] := hr.2 j _ hx
    rw [Nat.mul_one] at h1
    have hi : inner[j]? = some (.int .i64 (xs.getD j 0)) := by
      have h2 : ((inner.drop j).take 1)[0]? = some (.int .i64 (xs.getD j 0)) := by rw [h1]; rfl
      rw [List.getElem?_take_of_lt (by omega), List.getElem?_drop, Nat.add_zero] at h2
      exact h2
    have := ho.cells (g := g) rfl j _ hi
    rwa [add_plain] at this
theorem tab_of {W : World} {base : Nat} {ok : Nat → Prop} {v : Value} {t : List (List Int)} (h : Kd.S (Kd.slice 3 (Kd.int .i64)) 23 W base ok v t) (hl : 0 < t.length) (hrow : ∀ row ∈ t, 0 < row.length) :
    ∃ g cap bs, v = .slice (some ⟨g, 0, none⟩) t.length cap ∧ t.length ≤ cap ∧ bs.length = t.length ∧ Tab W base g bs t ∧ g < W.heap.size ∧ ∀ j, j < t.length → bs.getD j 0 < W.heap.size := by
  obtain ⟨f, h0, inner, ho, hr⟩ := h
  rw [List.length_zipIdx] at ho
  rcases ho.2 with ⟨rfl, hn⟩ | ⟨g, cap, cur, rfl, hg, hh, hc1, hc2, hc3, hc4⟩
  · omega
  · have H : ∀ i, i < t.length → ∃ b c, W.cell? ⟨g, i, none⟩ = some (.slice (some ⟨b, 0, none⟩) (t.getD i []).length c) ∧ (t.getD i []).length ≤ c ∧ b ≠ g ∧ f b = i ∧ base ≤ b ∧ b < W.heap.size ∧ RowAt W b (t.getD i []) := by
      intro i hi
      have hx : t[i]? = some (t.getD i []) := by rw [List.getD_eq_getElem?_getD, List.getElem?_eq_getElem hi]; rfl
      obtain ⟨vi, h1, h2⟩ := hr.2 i (t.getD i [], i) (Kd.zip_at hx)
      obtain ⟨b, c, rfl, q1, q2, q3, q4, q5⟩ := row_of h2 (hrow _ (Sig.getD_mem hi))
      refine ⟨b, c, ?_, q1, fun e => q2.1.2 (by rw [e]; rfl), q2.2, q3, q4, q5⟩
      have h1 : (inner.drop (i * 1)).take 1 = [.slice (some ⟨b, 0, none⟩) (t.getD i []).length c] := h1
      rw [Nat.mul_one] at h1
      have hii : inner[i]? = some (.slice (some ⟨b, 0, none⟩) (t.getD i []).length c) := by
        have h2 : ((inner.drop i).take 1)[0]? = some (.slice (some ⟨b, 0, none⟩) (t.getD i []).length c) := by rw [h1]; rfl
        rw [List.getElem?_take_of_lt (by omega), List.getElem?_drop, Nat.add_zero] at h2
        exact h2
      have := ho.cells (g := g) rfl i _ hii
      rwa [add_plain] at this
    have H' : ∀ i, ∃ b, i < t.length → ∃ c, W.cell? ⟨g, i, none⟩ = some (.slice (some ⟨b, 0, none⟩) (t.getD i []).length c) ∧ (t.getD i []).length ≤ c ∧ b ≠ g ∧ f b = i ∧ base ≤ b ∧ b < W.heap.size ∧ RowAt W b (t.getD i []) := by
      intro i
      by_cases hi : i < t.length
      · obtain ⟨b, hb⟩ := H i hi; exact ⟨b, fun _ => hb⟩
      · exact ⟨0, fun h => absurd h hi⟩
    refine ⟨g, cap, (List.range t.length).map (fun i => (H' i).choose), rfl, hc1, by simp, ?_⟩
    have hb : ∀ i, i < t.length → ((List.range t.length).map (fun i => (H' i).choose)).getD i 0 = (H' i).choose := fun i hi => Sig.getD_map_range _ _ _ _ hi
    refine ⟨⟨hg, fun i hi => ?_, fun i hi => ?_, fun i j hi hj e => ?_, fun i hi => ⟨?_, by simp [World.frozen?, hh]⟩, fun i hi => ?_⟩, (Array.getElem?_eq_some_iff.1 hh).1, fun i hi => ?_⟩
    · rw [hb i hi]; obtain ⟨c, q1, q2, q3, q4, q5, q6, q7⟩ := (H' i).choose_spec hi; exact q5
    · rw [hb i hi]; obtain ⟨c, q1, q2, q3, q4, q5, q6, q7⟩ := (H' i).choose_spec hi; exact q3
    · rw [hb i hi, hb j hj] at e
      obtain ⟨c, q1, q2, q3, q4, q5, q6, q7⟩ := (H' i).choose_spec hi
      obtain ⟨c', r1, r2, r3, r4, r5, r6, r7⟩ := (H' j).choose_spec hj
      rw [e] at q4
      exact q4.symm.trans r4
    · rw [hb i hi]; obtain ⟨c, q1, q2, q3, q4, q5, q6, q7⟩ := (H' i).choose_spec hi; exact ⟨c, q2, q1⟩
    · rw [hb i hi]; obtain ⟨c, q1, q2, q3, q4, q5, q6, q7⟩ := (H' i).choose_spec hi; exact q7
    · rw [hb i hi]; obtain ⟨c, q1, q2, q3, q4, q5, q6, q7⟩ := (H' i).choose_spec hi; exact q6
end Go.Proofs.Ytdbamhckgaoibaa.P
namespace Go.Proofs.Ytdbamhckgaoibaa.P
open Go.RowKit Go.Proofs.YtdbamhckgaoibaaW.PrintWords Go.Proofs.YtdbamhckgaoibaaW.PrintLast Go.Proofs.YtdbamhckgaoibaaW.PrintMore
theorem rd_L1_nat (l : List (List Int)) (j : Nat) : rd_L1 l (j : Int) = l.getD j [] := by unfold rd_L1; rw [Int.toNat_natCast]
theorem rd_nat (l : List Int) (j : Nat) : rd l (j : Int) = l.getD j 0 := by unfold rd; rw [Int.toNat_natCast]
theorem wrap_succ {j : Nat} (h : j < 1000000) : wrap64 ((j : Int) + 1) = ((j + 1 : Nat) : Int) := by unfold wrap64; omega
theorem set_set_row (t : List (List Int)) (i : Nat) (a b : List Int) : (t.set i a).set i b = t.set i b := by simp
theorem turned_l1 (rows : List (List Int)) (target : List Int) (i : Nat) (n T i' : Int) (k : Nat) (hlen : rows.length < 1000000) (hrows : ∀ j, j < rows.length → i < (rows.getD j []).length) :
    ∀ (d j : Nat) (t : List (List Int)), rows.length - j = d → j ≤ rows.length → i < t.length → (t.getD i []).length + d < 1000000 →
      linear_turned.l1 (k + d + 1) rows t (i : Int) n target T i' rows (rows.length : Int) (j : Int) = linear_turned.l0 k rows (t.set i (t.getD i [] ++ (rows.drop j).map (fun r => r.getD i 0) ++ [n])) target T (wrap64 (i' + 1)) := by
  intro d
  induction d with
  | zero =>
    intro j t hd hj hi hs
    obtain rfl : j = rows.length := by omega
    rw [linear_turned.l1, if_neg (by omega), if_pos (by omega), if_pos (by omega), rd_L1_nat, if_pos (by omega), List.drop_length, Int.toNat_natCast]
    simp
  | succ d ih =>
    intro j t hd hj hi hs
    have hjr := hrows j (by omega)
    rw [linear_turned.l1, if_pos (by omega), if_pos (by omega), if_pos (by omega), if_pos (by omega), if_pos (by omega), rd_L1_nat, rd_L1_nat, if_pos (by omega), if_pos (by omega), rd_nat, Int.toNat_natCast, wrap_succ (by omega)]
    rw [show k + (d + 1) = k + d + 1 from by omega, ih (j + 1) _ (by omega) (by omega) (by simpa using hi) (by
      rw [Sig.getD_set, if_pos ⟨rfl, hi⟩, List.length_append, List.length_singleton]; omega)]
    rw [Sig.getD_set, if_pos ⟨rfl, hi⟩, set_set_row, List.drop_eq_getElem_cons (show j < rows.length by omega), List.map_cons]
    have e : rows.getD j [] = rows[j] := by rw [List.getD_eq_getElem?_getD, List.getElem?_eq_getElem (by omega)]; rfl
    rw [e]
    simp
def tt (rows : List (List Int)) (target : List Int) (i : Nat) : List (List Int) := (Sig.turned rows target).take i ++ List.replicate (target.length - i) []
theorem tt_step {rows : List (List Int)} {target : List Int} {i : Nat} (hi : i < target.length) : (tt rows target i).set i ((tt rows target i).getD i [] ++ rows.map (fun r => r.getD i 0) ++ [target.getD i 0]) = tt rows target (i + 1) := by
  have hl : ((Sig.turned rows target).take i).length = i := by rw [List.length_take, Sig.turned_length]; omega
  have h0 : (tt rows target i).getD i [] = [] := by
    unfold tt
    rw [List.getD_eq_getElem?_getD, List.getElem?_append_right (by omega), hl, Nat.sub_self, List.getElem?_replicate, if_pos (by omega)]; rfl
  rw [h0, List.nil_append]
  unfold tt
  rw [List.set_append_right _ _ (by omega), hl, Nat.sub_self, show target.length - i = (target.length - (i + 1)) + 1 from by omega, List.replicate_succ, List.set_cons_zero]
  rw [List.take_succ_eq_append_getElem (by rw [Sig.turned_length]; exact hi), List.append_assoc]
  congr 1
  simp [Sig.turned]
theorem turned_l0 (rows : List (List Int)) (target : List Int) (hl1 : rows.length < 100000) (hl2 : target.length < 100000) (hrows : ∀ row ∈ rows, row.length = target.length) :
    ∀ (d i : Nat), target.length - i = d → i ≤ target.length → linear_turned.l0 (d * (rows.length + 2) + 1) rows (tt rows target i) target (target.length : Int) (i : Int) = some (Sig.turned rows target) := by
  intro d
  induction d with
  | zero =>
    intro i hd hi
    obtain rfl : i = target.length := by omega
    rw [Nat.zero_mul, linear_turned.l0, if_neg (by omega)]
    unfold tt
    rw [Nat.sub_self, List.replicate_zero, List.append_nil, List.take_of_length_le (by rw [Sig.turned_length]; omega)]
  | succ d ih =>
    intro i hd hi
    have hil : i < (tt rows target i).length := by unfold tt; rw [List.length_append, List.length_take, Sig.turned_length, List.length_replicate]; omega
    have h0 : ((tt rows target i).getD i []).length = 0 := by
      unfold tt
      rw [List.getD_eq_getElem?_getD, List.getElem?_append_right (by rw [List.length_take, Sig.turned_length]; omega), List.length_take, Sig.turned_length, show i - min i target.length = 0 from by omega, List.getElem?_replicate, if_pos (by omega)]; rfl
    rw [linear_turned.l0, if_pos (by omega), if_pos (by omega), if_pos (by omega), rd_nat]
    have e : (d + 1) * (rows.length + 2) = (d * (rows.length + 2) + 1) + rows.length + 1 := by rw [Nat.succ_mul]; omega
    have := turned_l1 rows target i (target.getD i 0) (target.length : Int) (i : Int) (d * (rows.length + 2) + 1) (by omega) (fun j hj => by
      rw [hrows _ (Sig.getD_mem hj)]; omega) rows.length 0 (tt rows target i) (by omega) (by omega) hil (by omega)
    rw [e]
    refine (this.trans ?_)
    rw [List.drop_zero, tt_step (by omega), wrap_succ (by omega)]
    exact ih (i + 1) (by omega) (by omega)
theorem turned_math {rows : List (List Int)} {target : List Int} (hl1 : rows.length < 100000) (hl2 : target.length < 100000) (hrows : ∀ row ∈ rows, row.length = target.length) :
    linear_turned.f (target.length * (rows.length + 2) + 1) rows target = some (Sig.turned rows target) := by
  unfold linear_turned.f
  rw [if_pos (by omega), if_pos (by omega)]
  have := turned_l0 rows target hl1 hl2 hrows target.length 0 (by omega) (by omega)
  unfold tt at this
  rw [List.take_zero, List.nil_append, Nat.sub_zero] at this
  rw [Int.toNat_natCast]
  exact this
end Go.Proofs.Ytdbamhckgaoibaa.P
namespace Go.Proofs.Ytdbamhckgaoibaa.P
open Go.RowKit Go.Proofs.YtdbamhckgaoibaaW.PrintWords Go.Proofs.YtdbamhckgaoibaaW.PrintLast Go.Proofs.YtdbamhckgaoibaaW.PrintMore
set_option linter.unusedVariables false
set_option linter.unusedSimpArgs false
def CombPost (rows : List (List Int)) (target : List Int) (w : World) (e : Ending) (w' : World) : Prop :=
  ∃ v, e = .returned (.tuple #[v, .bool (Sig.combine rows target).isSome, .int .i64 0]) ∧ Kd.R (Kd.int .i64) 3 w' w.heap.size (fun _ => True) v ((Sig.combine rows target).getD []) ∧ Below w.heap.size w w'
theorem R_of_own {w : World} {base n : Nat} {ok : Nat → Prop} {v : Value} {xs : List Int} (h : w.ownsRow base 3 1 v n (nums .i64 xs)) (hn : xs.length = n) (hok : ∀ k, v.ownBlock = some k → ok k) : Kd.R (Kd.int .i64) 3 w base ok v xs := by
  subst hn
  exact R_of_owns h hok
set_option maxRecDepth 100000 in
set_option maxHeartbeats 4000000 in
theorem combine_c (A0 : Option Addr) (c0 : Nat) (rows : List (List Int)) (A1 : Option Addr) (c1 : Nat) (target : List Int) (w : World) (hr0 : Kd.C (Kd.slice 3 (Kd.int .i64)) w A0 rows.length rows) (hc0 : rows.length ≤ c0) (hr1 : Kd.C (Kd.int .i64) w A1 target.length target) (hc1 : target.length ≤ c1)
    (hR : Sig.RectT rows target) (hl : rows.length ≤ 64) (h1 : 0 < target.length) (hx : target.length ≤ 64) :
    Calls Try.prog 92 #[.slice A0 rows.length c0, .slice A1 target.length c1] w (CombPost rows target w) := by
  have HE := Aside0.mk (fun (W : World) (hb : Below w.heap.size w W) => examine_c A0 c0 rows A1 c1 target W (Kd.C_below hr0 hb) (Kd.C_below hr1 hb) hc1 hR hl hx)
  have HT := Aside0.mk (fun (W : World) (hb : Below w.heap.size w W) => linear_turned.calls (target.length * (rows.length + 2) + 1) A0 c0 rows A1 c1 target (Sig.turned rows target) W (Kd.C_below hr0 hb) hc0 (Kd.C_below hr1 hb) hc1 (turned_math (by omega) (by omega) (fun row h => (hR.1 row h).1)))
  have htr := Sig.turned_rect hR
  have htl := Sig.turned_length rows target
  have hcm : Sig.combine rows target = if Sig.fits (Sig.reduce (Sig.turned rows target) rows.length).1 (Sig.reduce (Sig.turned rows target) rows.length).2.length rows.length then some (Sig.combY (Sig.reduce (Sig.turned rows target) rows.length).1 (Sig.reduce (Sig.turned rows target) rows.length).2 rows.length) else none := rfl
  obtain ⟨hinv, hrl⟩ := Sig.inv_reduce htr rows.length (by omega)
  have hrd := fun (W : World) (B g cap : Nat) (bs : List Nat) (q1 : Tab W B g bs (Sig.turned rows target)) (q2 : bs.length = (Sig.turned rows target).length) (q3 : (Sig.turned rows target).length ≤ cap) (q4 : B ≤ W.heap.size) (q5 : g < W.heap.size) (q6 : ∀ j, j < (Sig.turned rows target).length → bs.getD j 0 < W.heap.size) => reduce_c W B g cap bs (Sig.turned rows target) rows.length (rows.length + 1) q1 q2 htr (by omega) (by omega) (by omega) q3 q4 q5 q6
  unfold RedPost at hrd
  unfold CombPost
  rw [hcm]
  have hrow : ∀ row ∈ Sig.turned rows target, 0 < row.length := fun row h => by have := (htr row h).1; omega
  generalize Sig.turned rows target = t0 at *
  generalize hred : Sig.reduce t0 rows.length = st at *
  obtain ⟨m, ps⟩ := st
  simp only at hinv hrl hrd ⊢
  have HRD := Aside0.mk hrd
  have HINV := Aside0.mk hinv
  have HROW := Aside0.mk hrow
  have HTL := Aside0.mk htl
  have HRL := Aside0.mk hrl
  clear hr0 hr1 hR hcm hrd hinv hrow hred htr htl hrl
  obtain ⟨R, hRR⟩ : ∃ R : Ending → World → Prop, R = fun e w' => ∃ v, e = .returned (.tuple #[v, .bool (if Sig.fits m ps.length rows.length = true then some (Sig.combY m ps rows.length) else none).isSome, .int .i64 0]) ∧ Kd.R (Kd.int .i64) 3 w' w.heap.size (fun _ => True) v ((if Sig.fits m ps.length rows.length = true then some (Sig.combY m ps rows.length) else none).getD []) ∧ Below w.heap.size w w' := ⟨_, rfl⟩
  rw [← hRR]
  have HRR := Aside0.mk hRR
  clear hRR
  go_enter_defers Try.func92, Try.ntmps92
  go_wp2_with (first | (go_at_call 118; refine (HE.out _ (by exact (Below.refl _ _).alloc (Nat.le_refl _) _)).mono ?_; rintro e w1 ⟨rfl, hb1⟩; have HB1 := Aside0.mk (below_then ((Below.refl _ w).alloc (Nat.le_refl _) _) (by simp) hb1); have HX1 := Aside0.mk ((Bx.new w (.int .i64 0) 29).below hb1); clear hb1) | (go_at_call 169; refine (HT.out _ HB1.out).mono ?_; rintro e w2 ⟨v2, rfl, hS2, hb2⟩; have HS2 := Aside0.mk hS2; have HB2 := Aside0.mk hb2; clear hS2 hb2))
  obtain ⟨g, cap, bs, rfl, hcap, hlb, hT, hg, hbl⟩ := tab_of HS2.out (by rw [HTL.out]; exact h1) HROW.out
  have hge := hT.geg
  have hges := hT.ge
  refine (HRD.out w2 w1.heap.size g cap bs hT hlb hcap HB2.out.size hg hbl).mono ?_
  rintro e w3 ⟨v3, bs', rfl, hlb', hT3, hO3, hC3⟩
  have hB3 : Below w1.heap.size w2 w3 := hC3.below HB2.out.size (fun k hk => by
    rcases hk with rfl | ⟨j, hj, rfl⟩
    · exact hge
    · exact hges j hj)
  have hB13 : Below w1.heap.size w1 w3 := HB2.out.trans hB3
  have hX3 : Bx w3 w.heap.size (.int .i64 0) := HX1.out.below hB13
  have hB : Below w.heap.size w w3 := HB1.out.trans (hB13.mono HB1.out.size)
  have hb1 := HX1.out.lt
  have hs23 := hC3.size
  obtain ⟨pA, pc, rfl⟩ := own_len hO3
  have HT3 := Aside0.mk hT3
  have HO3 := Aside0.mk hO3
  have HX3 := Aside0.mk hX3
  have HB := Aside0.mk hB
  have hs12 := HB2.out.size
  clear hT3 hO3 hX3 hB hT hlb hges hge hbl hC3 hB3 hB13 HE HT HRD HS2 HB1 HB2 HX1
  have hpf : ps.length ≤ t0.length := by rw [← HRL.out]; exact HINV.out.few
  have y1 : (0 : Int) ≤ (ps.length : Int) := by omega
  have y2 : (ps.length : Int) ≤ (t0.length : Int) := by omega
  have y3 : decide (ps.length ≤ t0.length) = true := decide_eq_true hpf
  obtain ⟨L, hL⟩ : ∃ L, L = t0.length - ps.length := ⟨_, rfl⟩
  obtain ⟨A28, C28, hsl, hA⟩ : ∃ A C, (∀ W : World, (Instr.sliceAt 134 (.slice (some ⟨g, 0, none⟩) t0.length cap) (some (.int .i64 (ps.length : Int))) none none).run Try.prog W = .ok (.slice A L C) W) ∧ (0 < L → A = some ⟨g, ps.length, none⟩) := by
    by_cases e : cap = ps.length
    · refine ⟨some ⟨g, 0, none⟩, cap - ps.length, fun W => ?_, fun h => by omega⟩
      simp [go_sem, y1, y2, e, hL]
    · refine ⟨some ⟨g, ps.length, none⟩, cap - ps.length, fun W => ?_, fun h => rfl⟩
      simp [go_sem, y1, y2, e, hL]
  have HA := Aside0.mk hA
  have HLL := Aside0.mk hL
  clear hA hL
  go_wp2
  clear hsl
  go_loopg [30] L (fun gk v30 w' => ∃ j : Nat, j ≤ L ∧ gk = L - j ∧ v30 = .int .i64 (j : Int) ∧ Aside0 (∀ i, ps.length ≤ i → i < ps.length + j → Sig.ent m i rows.length = 0) ∧ w' = w3)
  case atStart => exact ⟨0, Nat.zero_le _, rfl, rfl, ⟨fun i h1 h2 => by omega⟩, rfl⟩
  case round =>
    obtain ⟨j, hj, rfl, rfl, HZ, hwe⟩ := hrel
    subst hwe
    by_cases hjL : j < L
    · have hi : ps.length + j < m.length := by have := HRL.out; have := HLL.out; omega
      have hlen := (HINV.out.rect _ (Sig.getD_mem hi)).1
      obtain ⟨⟨ci, m1, m2⟩, m3⟩ := HT3.out.main _ hi
      obtain ⟨q1, q2⟩ := HT3.out.rows _ hi rows.length (by omega)
      have q0 : (m.getD (ps.length + j) []).getD rows.length 0 = Sig.ent m (ps.length + j) rows.length := rfl
      rw [q0] at q1
      rw [hlen] at m2
      obtain ⟨bi, hbi⟩ : ∃ bi, bi = bs'.getD (ps.length + j) 0 := ⟨_, rfl⟩
      rw [← hbi] at m2 q1
      obtain ⟨x, hx⟩ : ∃ x, x = Sig.ent m (ps.length + j) rows.length := ⟨_, rfl⟩
      rw [← hx] at q1
      have HX := Aside0.mk hx
      have hAA := HA.out (by omega)
      subst hAA
      have f1 : decide ((j : Int) < (L : Int)) = true := decide_eq_true (by omega)
      have f2 : (0 : Int) ≤ (j : Int) := by omega
      have f3 : (j : Int) < (L : Int) := by omega
      have f4 : decide (j < L) = true := decide_eq_true hjL
      have f5 : (0 : Int) ≤ (rows.length : Int) := by omega
      have f6 : (rows.length : Int) < ((rows.length + 1 : Nat) : Int) := by omega
      have f7 : decide (rows.length < rows.length + 1) = true := decide_eq_true (by omega)
      have hxc := HX3.out.1
      have hxf := HX3.out.2
      clear hx hbi q0 m3 q2 hlen m1
      by_cases hz : x = 0
      · have hzb : (x == 0) = true := beq_iff_eq.2 hz
        have HZ0 := Aside0.mk hz
        clear hz hxc hxf
        go_wp2
        go_roundg (L - (j + 1))
        case measure => omega
        case rel =>
          have hj64 : j < 64 := by have := HTL.out; have := HLL.out; omega
          refine ⟨j + 1, by omega, rfl, by rw [wrap_succ (by omega)], ⟨fun i h1 h2 => ?_⟩, rfl⟩
          by_cases h3 : i = ps.length + j
          · rw [h3, ← HX.out]; exact HZ0.out
          · exact HZ.out i h1 (by omega)
      · have hzb : (x == 0) = false := beq_eq_false_iff_ne.2 hz
        have HZ0 := Aside0.mk hz
        clear hz
        go_wp2
        refine leaves_cons (f := 117) (args := #[.pointer (some ⟨w.heap.size, 0, none⟩)]) (by simp) (by simp [go_sem]) ?_
        refine (caught_idle ⟨w.heap.size, 0, none⟩ _).mono ?_
        rintro e u' w'' ⟨rfl, rfl, rfl⟩
        have hcell : (wr.setCell ⟨w.heap.size, 0, none⟩ (.int .i64 0)).cell? ⟨w.heap.size, 0, none⟩ = some (.int .i64 0) := (HX3.out.set _).1
        have hres : ∀ W : World, W.cell? ⟨w.heap.size, 0, none⟩ = some (.int .i64 0) → Below w.heap.size w W → Sig.fits m ps.length rows.length = false → R (.returned (.tuple #[.slice none 0 0, .bool false, .int .i64 0])) W := fun W _ hW hf => by
          rw [HRR.out]
          refine ⟨.slice none 0 0, ?_, ?_, hW⟩
          · rw [hf]; rfl
          · rw [hf]; exact Kd.R_nil _ _ _ _ _
        have hf : Sig.fits m ps.length rows.length = false := by
          rw [Bool.eq_false_iff]
          intro h
          exact HZ0.out (HX.out.trans (Sig.fits_spec.1 h _ (Nat.le_add_right _ _) hi))
        have hfin := hres _ hcell (HB.out.setCell (Nat.le_refl _) _) hf
        clear hres hf HX3 HT3 HO3 HB
        simp [Leaves, settle, results, Try.results92, go_sem, hcell]
        exact hfin
    · obtain rfl : j = L := by omega
      have f1 : decide ((j : Int) < (j : Int)) = false := decide_eq_false (by omega)
      have hmk := print_make (P := Try.prog) 23 3 .i64 8 (by kernel_rfl) (by kernel_rfl) (by decide) rows.length (by omega)
      go_wp2
      clear hmk
      have hown := own_made wr wr.heap.size 3 .i64 rows.length (Nat.le_refl _) (by omega)
      obtain ⟨W4, hW4⟩ : ∃ W4, wr.alloc (.cells (madeCells #[.int .i64 0] rows.length) 3) = W4 := ⟨_, rfl⟩
      rw [hW4] at hown ⊢
      have hB4 : Below wr.heap.size wr W4 := by rw [← hW4]; exact (Below.refl _ _).alloc (Nat.le_refl _) _
      have HT4 := Aside0.mk (HT3.out.below hB4)
      have HO4 := Aside0.mk (own_below HO3.out hB4)
      have HX4 := Aside0.mk (HX3.out.below hB4)
      have HB4 := Aside0.mk (below_then HB.out HB.out.size hB4)
      have HY4 := Aside0.mk hown
      have hsW := hB4.size
      have hxl := HX3.out.lt
      have hgb : ∀ i, i < m.length → bs'.getD i 0 < wr.heap.size := fun i hi => by
        have h2 := (HINV.out.rect _ (Sig.getD_mem hi)).1
        exact World.block_lt_of_cell? wr _ (HT3.out.rows i hi 0 (by omega)).1
      have hgw : g < wr.heap.size := by omega
      have HGB := Aside0.mk hgb
      have hpo : ∀ b, (Value.slice pA ps.length pc).ownBlock = some b → b < wr.heap.size := fun b hb => own_lt HO3.out b hb
      have HPO := Aside0.mk hpo
      clear hpo
      have hcomb : Sig.fits m ps.length rows.length = true := Sig.fits_spec.2 (fun i h1 h2 => HZ.out i h1 (by have := HLL.out; have := HRL.out; omega))
      have HF := Aside0.mk hcomb
      clear hown hB4 hW4 HT3 HO3 HX3 HB HZ hgb hcomb hsW
      have hpn : ∀ k, k < ps.length → ps.getD k 0 < rows.length := fun k hk => Sig.getD_low HINV.out.low hk
      have HPN := Aside0.mk hpn
      clear hpn
      have hp64 : ps.length ≤ 64 := by have := HTL.out; omega
      obtain ⟨gy, hgy⟩ : ∃ gy, gy = wr.heap.size := ⟨_, rfl⟩
      rw [← hgy] at HY4 HGB HPO hgw hxl hs23 ⊢
      have hw2 : w.heap.size ≤ w2.heap.size := by omega
      clear hgy
      go_loopg [44] ps.length (fun gk v44 w' => ∃ k : Nat, k ≤ ps.length ∧ gk = ps.length - k ∧ v44 = .int .i64 (k : Int) ∧ w'.ownsRow gy 3 1 (.slice (some ⟨gy, 0, none⟩) rows.length rows.length) rows.length (nums .i64 (Sig.lay ps (fun k => Sig.ent m k rows.length) (List.replicate rows.length 0) k)) ∧ Chg (fun b => b = gy) W4 w')
      case atStart => exact ⟨0, Nat.zero_le _, rfl, rfl, HY4.out, Chg.refl _ _⟩
      case round =>
        obtain ⟨k, hk, rfl, rfl, hY, hC⟩ := hrel
        have hX := HX4.out.chg hC (by omega)
        have HC := Aside0.mk hC
        by_cases hkp : k < ps.length
        · have hT := HT4.out.chg hC (by omega) (fun i hi e => by have := HGB.out i hi; omega)
          have hO := own_move HO4.out (fun b hb => hC.block b (own_lt HO4.out b hb) (fun e => by have := HPO.out b hb; omega))
          obtain ⟨gp, hgp⟩ : ∃ gp, pA = some ⟨gp, 0, none⟩ := by
            rcases hO.2 with ⟨_, h0⟩ | ⟨gp, cp, cur, h0, _⟩
            · omega
            · injection h0 with h0; exact ⟨gp, h0⟩
          subst hgp
          obtain ⟨p1, _⟩ := own_at hO (k : Int) (by omega) (by omega)
          have e1 : rd (ps.map fun (p : Nat) => (p : Int)) (k : Int) = ((ps.getD k 0 : Nat) : Int) := by
            rw [rd_nat, List.getD_eq_getElem?_getD, List.getElem?_map, List.getD_eq_getElem?_getD, List.getElem?_eq_getElem hkp]; rfl
          rw [e1, Int.toNat_natCast] at p1
          have hpk := HPN.out k hkp
          have hkm : k < m.length := by have := HRL.out; omega
          have hlen := (HINV.out.rect _ (Sig.getD_mem hkm)).1
          obtain ⟨⟨ci, m1, m2⟩, m3⟩ := hT.main k hkm
          obtain ⟨q1, q2⟩ := hT.rows k hkm rows.length (by omega)
          have q0 : (m.getD k []).getD rows.length 0 = Sig.ent m k rows.length := rfl
          rw [q0] at q1
          rw [hlen] at m2
          have hstep : Sig.lay ps (fun k => Sig.ent m k rows.length) (List.replicate rows.length 0) (k + 1) = (Sig.lay ps (fun k => Sig.ent m k rows.length) (List.replicate rows.length 0) k).set (ps.getD k 0) (Sig.ent m k rows.length) := rfl
          obtain ⟨s1, s2⟩ := own_at hY ((ps.getD k 0 : Nat) : Int) (by omega) (by omega)
          obtain ⟨s3, _⟩ := own_store hY ((ps.getD k 0 : Nat) : Int) (Sig.ent m k rows.length)
          rw [Int.toNat_natCast] at s1 s2 s3
          rw [← hstep] at s3
          have hst2 := hC.then_set (.inl rfl) (j := ps.getD k 0) (.int .i64 (Sig.ent m k rows.length)) (b := gy)
          have HS3 := Aside0.mk s3
          have HS4 := Aside0.mk hst2
          have HHX := Aside0.mk hX
          have f2 : decide ((k : Int) < (ps.length : Int)) = true := decide_eq_true (by omega)
          have f3 : (0 : Int) ≤ (k : Int) := by omega
          have f4 : (k : Int) < (ps.length : Int) := by omega
          have f5 : decide (k < ps.length) = true := decide_eq_true hkp
          have f6 : (k : Int) < (t0.length : Int) := by have := HRL.out; omega
          have f7 : decide (k < t0.length) = true := decide_eq_true (by have := HRL.out; omega)
          have f8 : (0 : Int) ≤ (rows.length : Int) := by omega
          have f9 : (rows.length : Int) < ((rows.length + 1 : Nat) : Int) := by omega
          have f10 : decide (rows.length < rows.length + 1) = true := decide_eq_true (by omega)
          have f11 : (0 : Int) ≤ ((ps.getD k 0 : Nat) : Int) := by omega
          have f12 : ((ps.getD k 0 : Nat) : Int) < (rows.length : Int) := by omega
          have f13 : decide (ps.getD k 0 < rows.length) = true := decide_eq_true hpk
          clear hT hO hY hC hX e1 hpk hlen m1 m3 q2 q0 hstep s3 hst2 HHX
          obtain ⟨pk, hpk⟩ : ∃ pk, pk = ps.getD k 0 := ⟨_, rfl⟩
          obtain ⟨bi, hbi⟩ : ∃ bi, bi = bs'.getD k 0 := ⟨_, rfl⟩
          obtain ⟨x, hx⟩ : ∃ x, x = Sig.ent m k rows.length := ⟨_, rfl⟩
          rw [← hpk] at p1 s1 s2 HS3 HS4 f11 f12 f13
          rw [← hbi] at m2 q1
          rw [← hx] at q1 HS3 HS4
          clear hpk hbi hx
          go_wp2
          go_roundg (ps.length - (k + 1))
          case measure => omega
          case rel => exact ⟨k + 1, by omega, rfl, by first | rfl | rw [wrap_succ (by omega)], HS3.out, HS4.out⟩
        · obtain rfl : k = ps.length := by omega
          have f2 : decide ((ps.length : Int) < (ps.length : Int)) = false := decide_eq_false (by omega)
          have hxc := hX.1
          have hxf := hX.2
          have hcell : (wr.setCell ⟨w.heap.size, 0, none⟩ (.int .i64 0)).cell? ⟨w.heap.size, 0, none⟩ = some (.int .i64 0) := (hX.set _).1
          have hfin : R (.returned (.tuple #[.slice (some ⟨gy, 0, none⟩) rows.length rows.length, .bool true, .int .i64 0])) (wr.setCell ⟨w.heap.size, 0, none⟩ (.int .i64 0)) := by
            rw [HRR.out]
            refine ⟨.slice (some ⟨gy, 0, none⟩) rows.length rows.length, ?_, ?_, ?_⟩
            · rw [HF.out]; rfl
            · rw [HF.out]
              exact R_of_own (own_mono (own_far hY (b := w.heap.size) (j := 0) (by omega) (.int .i64 0)) (by omega)) (Sig.combY_length _ _ _) (fun _ _ => trivial)
            · exact (HB4.out.trans ((hC.below (base := w.heap.size) HB4.out.size (fun k e => by omega)))).setCell (Nat.le_refl _) _
          have HFIN := Aside0.mk hfin
          clear hfin hX HX4 hC HC HF HRR hY HY4 HT4 HO4 HB4
          go_wp2
          refine leaves_cons (f := 117) (args := #[.pointer (some ⟨w.heap.size, 0, none⟩)]) (by simp) (by simp [go_sem]) ?_
          refine (caught_idle ⟨w.heap.size, 0, none⟩ _).mono ?_
          rintro e u' w'' ⟨rfl, rfl, rfl⟩
          simp [Leaves, settle, results, Try.results92, go_sem, hcell]
          exact HFIN.out
end Go.Proofs.Ytdbamhckgaoibaa.P
namespace Go.Proofs.Ytdbamhckgaoibaa.P
open Go.RowKit Go.Proofs.YtdbamhckgaoibaaW.PrintWords Go.Proofs.YtdbamhckgaoibaaW.PrintLast Go.Proofs.YtdbamhckgaoibaaW.PrintMore
attribute [local go_sem] max2_int min2_int max_two min_two max_three min_three max_four min_four
set_option linter.unusedVariables false
set_option linter.unusedSimpArgs false
mutual
def program_Check.j0 : Nat → Bool → List (List Int) → List Int → Option (Int)
 | 0, _, _, _ => none
 | k + 1, x16, x116000, x116001 => if x16 = true then (some 2) else (if (x116000.length : Int) = (x116001.length : Int) then (program_Check.l0 k x116000 (x116000.length : Int) 0 x116000 x116001) else (some 230))
def program_Check.l0 : Nat → List (List Int) → Int → Int → List (List Int) → List Int → Option (Int)
 | 0, _, _, _, _, _ => none
 | k + 1, x25, x26, x27, x116000, x116001 => if x27 < x26 then (if 0 ≤ x27 then (if x27 < (x25.length : Int) then (if ((rd_L1 x25 x27).length : Int) = 0 then (some 230) else (if 0 < (x116000.length : Int) then (if ((rd_L1 x25 x27).length : Int) = ((rd_L1 x116000 0).length : Int) then (if x27 < (x116001.length : Int) then ((program_isPerson.f (rd x116001 x27)).bind fun t120 => (if t120 = true then ((contains_odd.f (rd_L1 x25 x27)).bind fun t121 => (if t121 = true then (some 230) else (program_Check.l0 k x25 x26 (wrap64 (x27 + 1)) x116000 x116001))) else (some 230))) else (none)) else (some 230)) else (none))) else (none)) else (none)) else (some 0)
end
def program_Check.f (k : Nat) (l0_0 : List (List Int)) (l0_1 : List Int) : Option (Int) := if (l0_0.length : Int) > 64 then (program_Check.j0 k true l0_0 l0_1) else ((contains_long.f l0_0).bind fun t116 => (program_Check.j0 k t116 l0_0 l0_1))
set_option maxHeartbeats 8000000 in
set_option maxRecDepth 100000 in
theorem program_Check.calls (k : Nat) (A0_0 : Option Addr) (c0_0 : Nat) (l0_0 : List (List Int)) (A0_1 : Option Addr) (c0_1 : Nat) (l0_1 : List Int) (r : Int) (w : World) (hr0_0 : Kd.C (Kd.slice 3 (Kd.int .i64)) w A0_0 l0_0.length l0_0) (hc0_0 : l0_0.length ≤ c0_0) (hr0_1 : Kd.C (Kd.int .i64) w A0_1 l0_1.length l0_1) (hc0_1 : l0_1.length ≤ c0_1) (h : program_Check.f k l0_0 l0_1 = some r) :
  Calls Try.prog 82 #[.agg #[.slice A0_0 l0_0.length c0_0, .slice A0_1 l0_1.length c0_1]] w fun e w' => e = .returned (.int .i64 r) ∧ Below w.heap.size w w' := by
 have hu25 := Try.underlying25
 have HR0_0 := Aside0.mk hr0_0
 have HC0_0 := Aside0.mk hc0_0
 clear hr0_0 hc0_0
 have HR0_1 := Aside0.mk hr0_1
 have HC0_1 := Aside0.mk hc0_1
 clear hr0_1 hc0_1
 have HB := Aside0.mk (Below.refl w.heap.size w)
 have H : (if (l0_0.length : Int) > 64 then (program_Check.j0 k true l0_0 l0_1) else ((contains_long.f l0_0).bind fun t116 => (program_Check.j0 k t116 l0_0 l0_1))) = some r := h
 clear h
 have HC2 := Aside0.mk H
 clear H
 go_enter Try.func82, Try.ntmps82
 go_upto_region 2 with (first | ((with_reducible refine gate_dst (N := 1) rfl ?_); (try (refine gate_guard (by rfl) ?_; dsimp only)); refine box_event ?hg (N := 1) ?hd (cs := #[.slice A0_0 l0_0.length c0_0, .slice A0_1 l0_1.length c0_1]) (t := 25) ?hr ?_; (case hd => rfl); (case hg => rfl); (case hr => first | (go_simp; done) | (go_simp; rfl)); intro gb115 hg w3 hbox hb; have n0_ := Aside0.mk (below_step (by repeat (first | (with_reducible first | exact HB.out | apply below_alloc | apply pw_below_drewN | apply below_drew1) | exact HB.out)) hb); have n1_ := Aside0.mk (hbox); have n2_ := Aside0.mk ((by rw [hg]; exact (below_size (by repeat (first | (with_reducible first | exact HB.out | apply below_alloc | apply pw_below_drewN | apply below_drew1) | exact HB.out))) : w.heap.size ≤ gb115)); have n3_ := Aside0.mk ((by rw [hg]; exact (below_size (by repeat (first | (with_reducible first | exact HB.out | apply below_alloc | apply pw_below_drewN | apply below_drew1) | exact HB.out))) : w.heap.size ≤ gb115)); clear HB; have HB := n0_; have BK115 := n1_; have GW115 := n2_; have GE115 := n3_; clear n0_ n1_ n2_ n3_; clear hb hbox hg))
 (try simp only [Act.put, List.setIfInBounds_toArray, List.set_cons_zero, List.set_cons_succ])
 go_cut [16] (fun v16 wc => ∃ (kq : Nat) (x16_1 : Bool), v16 = .bool x16_1 ∧ Aside0 (program_Check.j0 kq x16_1 l0_0 l0_1 = some r) ∧ Aside0 (kq ≤ k) ∧ Aside0 (wc.heap[gb115]? = some (.cells #[(.slice A0_0 l0_0.length c0_0), (.slice A0_1 l0_1.length c0_1)] 25 (0, 0))) ∧ Aside0 (Below w.heap.size w wc))
 case first =>
  have H := HC2.out
  clear HC2
  by_cases c4 : (l0_0.length : Int) > 64
  ·rw [if_pos c4] at H
   have c4b0 : decide (64 < (l0_0.length : Int)) = true := decide_eq_true c4
   have c4b1 : decide (64 < l0_0.length) = true := decide_eq_true (by omega)
   clear c4
   (first | rw [c4b0] | (simp only [i64_w, i32_w]; rw [c4b0]) | skip)
   have H' := Aside0.mk H
   clear H
   have hcz5_0 : w3.cell? ⟨gb115, 0, none⟩ = some (.slice A0_0 l0_0.length c0_0) := (blk_cell BK115.out 0).trans rfl
   have hcz5_1 : w3.cell? ⟨gb115, 1, none⟩ = some (.slice A0_1 l0_1.length c0_1) := (blk_cell BK115.out 1).trans rfl
   have hfz5_0 := blk_frozen BK115.out 0
   have hfz5_1 := blk_frozen BK115.out 1
   go_wp2
   go_meet
   case rel => exact ⟨_, (true), (by first | rfl | (simp; done) | (simp [*]; done)), H', ⟨by first | omega | exact Nat.le_refl _⟩, ⟨by (with_reducible repeat (first | refine blk_drewN ?_ _ | refine blk_drew ?_ | refine blk_alloc ?_ _)); exact BK115.out⟩, ⟨by repeat (first | (with_reducible first | exact HB.out | apply below_alloc | apply pw_below_drewN | apply below_drew1 | refine below_set ?_ GE115.out) | exact HB.out)⟩⟩
  ·rw [if_neg c4] at H
   have c4b0 : decide (64 < (l0_0.length : Int)) = false := decide_eq_false c4
   have c4b1 : decide (64 < l0_0.length) = false := decide_eq_false (by omega)
   clear c4
   (first | rw [c4b0] | (simp only [i64_w, i32_w]; rw [c4b0]) | skip)
   replace H := Option.bind_eq_some_iff.mp H
   obtain ⟨t116, A60, H⟩ := H
   replace H : (program_Check.j0 k t116 l0_0 l0_1) = some r := H
   have A6 := Aside0.mk A60
   clear A60
   have H' := Aside0.mk H
   clear H
   have hcz7_0 : w3.cell? ⟨gb115, 0, none⟩ = some (.slice A0_0 l0_0.length c0_0) := (blk_cell BK115.out 0).trans rfl
   have hcz7_1 : w3.cell? ⟨gb115, 1, none⟩ = some (.slice A0_1 l0_1.length c0_1) := (blk_cell BK115.out 1).trans rfl
   have hfz7_0 := blk_frozen BK115.out 0
   have hfz7_1 := blk_frozen BK115.out 1
   go_wp2_with (first | (go_at_call 157; (with_reducible refine (contains_long.calls _ _ l0_0  t116 _ ?side1 ?side2 A6.out).mono ?_); (case side1 => repeat (first | exact (Kd.C_below HR0_0.out HB.out) | (with_reducible refine Kd.C_alloc ?_ _) | (with_reducible refine Kd.C_drewN ?_ _) | (with_reducible refine Kd.C_drew ?_))); (case side2 => exact HC0_0.out); rintro e w' ⟨rfl, ⟨nd, rfl⟩⟩))
   go_meet
   case rel => exact ⟨_, (t116), (by first | rfl | (simp; done) | (simp [*]; done)), H', ⟨by first | omega | exact Nat.le_refl _⟩, ⟨by (with_reducible repeat (first | refine blk_drewN ?_ _ | refine blk_drew ?_ | refine blk_alloc ?_ _)); exact BK115.out⟩, ⟨by repeat (first | (with_reducible first | exact HB.out | apply below_alloc | apply pw_below_drewN | apply below_drew1 | refine below_set ?_ GE115.out) | exact HB.out)⟩⟩
 case rest =>
  clear HC2
  try clear p2
  try clear c4
  try clear c4b0
  try clear c4b1
  try clear hcz5_0
  try clear hcz5_1
  try clear hcz7_0
  try clear hcz7_1
  try clear hfz5_0
  try clear hfz5_1
  try clear hfz7_0
  try clear hfz7_1
  obtain ⟨kq, x16_1, rfl, HA, HJ1, BK115, HB⟩ := hcut
  cases kq with
  | zero => exact absurd HA.out (by simp [program_Check.j0])
  | succ kj1 =>
   have H := HA.out
   clear HA
   simp only [program_Check.j0] at H
   by_cases c8 : x16_1 = true
   ·subst c8
    have H1 : (some 2) = some r := by rw [if_pos rfl] at H; exact H
    clear H
    have H := H1
    clear H1
    obtain rfl := Option.some.inj H
    go_wp2
    go_ret
    exact ⟨by first | rfl | (simp [errW_none, errW_some] <;> rfl) | (simp [*, errW_none, errW_some] <;> rfl), by repeat (first | (with_reducible first | exact HB.out | apply below_alloc | apply pw_below_drewN | apply below_drew1 | refine below_set ?_ GE115.out) | exact HB.out)⟩
   ·replace c8 := Bool.eq_false_iff.mpr c8
    subst c8
    have H1 : (if (l0_0.length : Int) = (l0_1.length : Int) then (program_Check.l0 kj1 l0_0 (l0_0.length : Int) 0 l0_0 l0_1) else (some 230)) = some r := by rw [if_neg (show ¬ (false = true) by decide)] at H; exact H
    clear H
    have H := H1
    clear H1
    by_cases c9 : (l0_0.length : Int) = (l0_1.length : Int)
    ·rw [if_pos c9] at H
     have c9b0 : ((l0_0.length : Int) == (l0_1.length : Int)) = true := beq_iff_eq.mpr c9
     have c9b1 : ((l0_0.length : Int) != (l0_1.length : Int)) = false := bne_eq_false_iff_eq.mpr c9
     have c9b2 : (l0_0.length == l0_1.length) = true := by first | simpa using c9 | (simp at c9 ⊢; omega)
     clear c9
     have H' := Aside0.mk H
     clear H
     have hcz10_0 : wc.cell? ⟨gb115, 0, none⟩ = some (.slice A0_0 l0_0.length c0_0) := (blk_cell BK115.out 0).trans rfl
     have hcz10_1 : wc.cell? ⟨gb115, 1, none⟩ = some (.slice A0_1 l0_1.length c0_1) := (blk_cell BK115.out 1).trans rfl
     have hfz10_0 := blk_frozen BK115.out 0
     have hfz10_1 := blk_frozen BK115.out 1
     go_wp2
     go_loopg [27] kj1 (fun kq v27 w' => ∃ (x27_2 : Int), v27 = .int .i64 x27_2 ∧ Aside0 (program_Check.l0 kq l0_0 (l0_0.length : Int) x27_2 l0_0 l0_1 = some r) ∧ Aside0 (kq ≤ kj1) ∧ Aside0 (w'.heap[gb115]? = some (.cells #[(.slice A0_0 l0_0.length c0_0), (.slice A0_1 l0_1.length c0_1)] 25 (0, 0))) ∧ Aside0 (Below w.heap.size w w'))
     case atStart => exact ⟨(0), (by first | rfl | (simp; done) | (simp [*]; done)), H', ⟨Nat.le_refl _⟩, ⟨by (with_reducible repeat (first | refine blk_drewN ?_ _ | refine blk_drew ?_ | refine blk_alloc ?_ _)); exact BK115.out⟩, ⟨by repeat (first | (with_reducible first | exact HB.out | apply below_alloc | apply pw_below_drewN | apply below_drew1 | refine below_set ?_ GE115.out) | exact HB.out)⟩⟩
     case round =>
      clear H'
      try clear p2
      try clear c4
      try clear c4b0
      try clear c4b1
      try clear c8
      try clear c9
      try clear c9b0
      try clear c9b1
      try clear c9b2
      try clear hcz10_0
      try clear hcz10_1
      try clear hcz5_0
      try clear hcz5_1
      try clear hcz7_0
      try clear hcz7_1
      try clear hfz10_0
      try clear hfz10_1
      try clear hfz5_0
      try clear hfz5_1
      try clear hfz7_0
      try clear hfz7_1
      try clear p2
      obtain ⟨x27_2, rfl, HA, HK2, BK115, HB⟩ := hrel
      cases gk with
      | zero => exact absurd HA.out (by simp [program_Check.l0])
      | succ k2 =>
       have H := HA.out
       clear HA
       simp only [program_Check.l0] at H
       by_cases c11 : x27_2 < (l0_0.length : Int)
       ·rw [if_pos c11] at H
        have c11b0 : decide (x27_2 < (l0_0.length : Int)) = true := decide_eq_true c11
        clear c11
        by_cases c12 : 0 ≤ x27_2
        ·rw [if_pos c12] at H
         have c12b0 : decide (0 ≤ x27_2) = true := decide_eq_true c12
         clear c12
         by_cases c13 : x27_2 < (l0_0.length : Int)
         ·rw [if_pos c13] at H
          have c13b0 : decide (x27_2 < (l0_0.length : Int)) = true := decide_eq_true c13
          clear c13
          by_cases c14 : ((rd_L1 l0_0 x27_2).length : Int) = 0
          ·rw [if_pos c14] at H
           have c14b0 : (((rd_L1 l0_0 x27_2).length : Int) == 0) = true := beq_iff_eq.mpr c14
           have c14b1 : (((rd_L1 l0_0 x27_2).length : Int) != 0) = false := bne_eq_false_iff_eq.mpr c14
           clear c14
           obtain rfl := Option.some.inj H
           have p117 : 0 ≤ (x27_2 : Int) := of_decide_eq_true (by first | (with_reducible assumption) | assumption)
           have q117 : x27_2 < (l0_0.length : Int) := of_decide_eq_true (by first | (with_reducible assumption) | assumption)
           obtain ⟨ad117, A117_0, c117_0, e117, hx117_0, hl117_0, hi117_0⟩ := at_L1 HR0_0.out x27_2 p117 q117
           cases e117
           replace hx117_0 := (HB.out.cell (World.block_lt_of_cell? w _ hx117_0)).trans hx117_0
           have HR117_0 := Aside0.mk hi117_0
           have HC117_0 := Aside0.mk hl117_0
           clear hi117_0 hl117_0
           replace p117 := eq_true p117
           replace q117 := eq_true q117
           go_wp2
           go_ret
           exact ⟨by first | rfl | (simp [errW_none, errW_some] <;> rfl) | (simp [*, errW_none, errW_some] <;> rfl), by repeat (first | (with_reducible first | exact HB.out | apply below_alloc | apply pw_below_drewN | apply below_drew1 | refine below_set ?_ GE115.out) | exact HB.out)⟩
          ·rw [if_neg c14] at H
           have c14b0 : (((rd_L1 l0_0 x27_2).length : Int) == 0) = false := beq_eq_false_iff_ne.mpr c14
           have c14b1 : (((rd_L1 l0_0 x27_2).length : Int) != 0) = true := bne_iff_ne.mpr c14
           have c14b2 : ¬ ((rd_L1 l0_0 x27_2) = []) := fun h_ => c14 (by rw [h_]; rfl)
           by_cases c15 : 0 < (l0_0.length : Int)
           ·rw [if_pos c15] at H
            have c15b0 : decide (0 < (l0_0.length : Int)) = true := decide_eq_true c15
            have c15b1 : decide (0 < l0_0.length) = true := decide_eq_true (by omega)
            clear c15
            by_cases c16 : ((rd_L1 l0_0 x27_2).length : Int) = ((rd_L1 l0_0 0).length : Int)
            ·rw [if_pos c16] at H
             have c16b0 : (((rd_L1 l0_0 x27_2).length : Int) == ((rd_L1 l0_0 0).length : Int)) = true := beq_iff_eq.mpr c16
             have c16b1 : (((rd_L1 l0_0 x27_2).length : Int) != ((rd_L1 l0_0 0).length : Int)) = false := bne_eq_false_iff_eq.mpr c16
             have c16b2 : ((rd_L1 l0_0 x27_2).length == (rd_L1 l0_0 0).length) = true := by first | simpa using c16 | (simp at c16 ⊢; omega)
             clear c16
             by_cases c17 : x27_2 < (l0_1.length : Int)
             ·rw [if_pos c17] at H
              have c17b0 : decide (x27_2 < (l0_1.length : Int)) = true := decide_eq_true c17
              clear c17
              replace H := Option.bind_eq_some_iff.mp H
              obtain ⟨t120, A180, H⟩ := H
              replace H : (if t120 = true then ((contains_odd.f (rd_L1 l0_0 x27_2)).bind fun t121 => (if t121 = true then (some 230) else (program_Check.l0 k2 l0_0 (l0_0.length : Int) (wrap64 (x27_2 + 1)) l0_0 l0_1))) else (some 230)) = some r := H
              have A18 := Aside0.mk A180
              clear A180
              by_cases c19 : t120 = true
              ·subst c19
               have H1 : ((contains_odd.f (rd_L1 l0_0 x27_2)).bind fun t121 => (if t121 = true then (some 230) else (program_Check.l0 k2 l0_0 (l0_0.length : Int) (wrap64 (x27_2 + 1)) l0_0 l0_1))) = some r := by rw [if_pos rfl] at H; exact H
               clear H
               have H := H1
               clear H1
               replace H := Option.bind_eq_some_iff.mp H
               obtain ⟨t121, A200, H⟩ := H
               replace H : (if t121 = true then (some 230) else (program_Check.l0 k2 l0_0 (l0_0.length : Int) (wrap64 (x27_2 + 1)) l0_0 l0_1)) = some r := H
               have A20 := Aside0.mk A200
               clear A200
               by_cases c21 : t121 = true
               ·subst c21
                have H1 : (some 230) = some r := by rw [if_pos rfl] at H; exact H
                clear H
                have H := H1
                clear H1
                obtain rfl := Option.some.inj H
                have p117 : 0 ≤ (x27_2 : Int) := of_decide_eq_true (by first | (with_reducible assumption) | assumption)
                have q117 : x27_2 < (l0_0.length : Int) := of_decide_eq_true (by first | (with_reducible assumption) | assumption)
                obtain ⟨ad117, A117_0, c117_0, e117, hx117_0, hl117_0, hi117_0⟩ := at_L1 HR0_0.out x27_2 p117 q117
                cases e117
                replace hx117_0 := (HB.out.cell (World.block_lt_of_cell? w _ hx117_0)).trans hx117_0
                have HR117_0 := Aside0.mk hi117_0
                have HC117_0 := Aside0.mk hl117_0
                clear hi117_0 hl117_0
                replace p117 := eq_true p117
                replace q117 := eq_true q117
                have hcz22_0 : wr.cell? ⟨gb115, 0, none⟩ = some (.slice (some ad117) l0_0.length c0_0) := (blk_cell BK115.out 0).trans rfl
                have hcz22_1 : wr.cell? ⟨gb115, 1, none⟩ = some (.slice A0_1 l0_1.length c0_1) := (blk_cell BK115.out 1).trans rfl
                have hfz22_0 := blk_frozen BK115.out 0
                have hfz22_1 := blk_frozen BK115.out 1
                have p118 : 0 ≤ (0 : Int) := (by omega)
                have q118 : 0 < (l0_0.length : Int) := of_decide_eq_true (by first | (with_reducible assumption) | assumption)
                obtain ⟨ad118, A118_0, c118_0, e118, hx118_0, hl118_0, hi118_0⟩ := at_L1 HR0_0.out 0 p118 q118
                obtain rfl : ad117 = ad118 := (by injection e118)
                have qi118 : (0 < l0_0.length) = True := eq_true (by omega)
                (try rw [show ((0 : Int)).toNat = 0 from rfl] at hx118_0)
                (try rw [Addr.add_zero'] at hx118_0)
                replace hx118_0 := (HB.out.cell (World.block_lt_of_cell? w _ hx118_0)).trans hx118_0
                have HR118_0 := Aside0.mk hi118_0
                have HC118_0 := Aside0.mk hl118_0
                clear hi118_0 hl118_0
                replace p118 := eq_true p118
                replace q118 := eq_true q118
                have p119 : 0 ≤ (x27_2 : Int) := of_decide_eq_true (by first | (with_reducible assumption) | assumption)
                have q119 : x27_2 < (l0_1.length : Int) := of_decide_eq_true (by first | (with_reducible assumption) | assumption)
                obtain ⟨ad119, e119, hx119_0⟩ := Kd.at_int HR0_1.out x27_2 p119 q119
                cases e119
                replace hx119_0 := (HB.out.cell (World.block_lt_of_cell? w _ hx119_0)).trans hx119_0
                replace p119 := eq_true p119
                replace q119 := eq_true q119
                go_wp2_with (first | (go_at_call 160; (with_reducible refine (program_isPerson.calls (rd l0_1 x27_2) true _ A18.out).mono ?_); rintro e w' ⟨rfl, ⟨nd, rfl⟩⟩) | (go_at_call 161; (with_reducible refine (contains_odd.calls _ _ (rd_L1 l0_0 x27_2)  true _ ?side1 ?side2 A20.out).mono ?_); (case side1 => repeat (first | exact (Kd.C_below HR117_0.out (by repeat (first | (with_reducible first | exact HB.out | apply below_alloc | apply pw_below_drewN | apply below_drew1 | refine below_set ?_ GE115.out) | exact HB.out))) | (with_reducible refine Kd.C_alloc ?_ _) | (with_reducible refine Kd.C_drewN ?_ _) | (with_reducible refine Kd.C_drew ?_))); (case side2 => exact HC117_0.out); rintro e w' ⟨rfl, ⟨nd, rfl⟩⟩))
                go_ret
                exact ⟨by first | rfl | (simp [errW_none, errW_some] <;> rfl) | (simp [*, errW_none, errW_some] <;> rfl), by repeat (first | (with_reducible first | exact HB.out | apply below_alloc | apply pw_below_drewN | apply below_drew1 | refine below_set ?_ GE115.out) | exact HB.out)⟩
               ·replace c21 := Bool.eq_false_iff.mpr c21
                subst c21
                have H1 : (program_Check.l0 k2 l0_0 (l0_0.length : Int) (wrap64 (x27_2 + 1)) l0_0 l0_1) = some r := by rw [if_neg (show ¬ (false = true) by decide)] at H; exact H
                clear H
                have H := H1
                clear H1
                have H' := Aside0.mk H
                clear H
                have p117 : 0 ≤ (x27_2 : Int) := of_decide_eq_true (by first | (with_reducible assumption) | assumption)
                have q117 : x27_2 < (l0_0.length : Int) := of_decide_eq_true (by first | (with_reducible assumption) | assumption)
                obtain ⟨ad117, A117_0, c117_0, e117, hx117_0, hl117_0, hi117_0⟩ := at_L1 HR0_0.out x27_2 p117 q117
                cases e117
                replace hx117_0 := (HB.out.cell (World.block_lt_of_cell? w _ hx117_0)).trans hx117_0
                have HR117_0 := Aside0.mk hi117_0
                have HC117_0 := Aside0.mk hl117_0
                clear hi117_0 hl117_0
                replace p117 := eq_true p117
                replace q117 := eq_true q117
                have hcz23_0 : wr.cell? ⟨gb115, 0, none⟩ = some (.slice (some ad117) l0_0.length c0_0) := (blk_cell BK115.out 0).trans rfl
                have hcz23_1 : wr.cell? ⟨gb115, 1, none⟩ = some (.slice A0_1 l0_1.length c0_1) := (blk_cell BK115.out 1).trans rfl
                have hfz23_0 := blk_frozen BK115.out 0
                have hfz23_1 := blk_frozen BK115.out 1
                have p118 : 0 ≤ (0 : Int) := (by omega)
                have q118 : 0 < (l0_0.length : Int) := of_decide_eq_true (by first | (with_reducible assumption) | assumption)
                obtain ⟨ad118, A118_0, c118_0, e118, hx118_0, hl118_0, hi118_0⟩ := at_L1 HR0_0.out 0 p118 q118
                obtain rfl : ad117 = ad118 := (by injection e118)
                have qi118 : (0 < l0_0.length) = True := eq_true (by omega)
                (try rw [show ((0 : Int)).toNat = 0 from rfl] at hx118_0)
                (try rw [Addr.add_zero'] at hx118_0)
                replace hx118_0 := (HB.out.cell (World.block_lt_of_cell? w _ hx118_0)).trans hx118_0
                have HR118_0 := Aside0.mk hi118_0
                have HC118_0 := Aside0.mk hl118_0
                clear hi118_0 hl118_0
                replace p118 := eq_true p118
                replace q118 := eq_true q118
                have p119 : 0 ≤ (x27_2 : Int) := of_decide_eq_true (by first | (with_reducible assumption) | assumption)
                have q119 : x27_2 < (l0_1.length : Int) := of_decide_eq_true (by first | (with_reducible assumption) | assumption)
                obtain ⟨ad119, e119, hx119_0⟩ := Kd.at_int HR0_1.out x27_2 p119 q119
                cases e119
                replace hx119_0 := (HB.out.cell (World.block_lt_of_cell? w _ hx119_0)).trans hx119_0
                replace p119 := eq_true p119
                replace q119 := eq_true q119
                go_wp2_with (first | (go_at_call 160; (with_reducible refine (program_isPerson.calls (rd l0_1 x27_2) true _ A18.out).mono ?_); rintro e w' ⟨rfl, ⟨nd, rfl⟩⟩) | (go_at_call 161; (with_reducible refine (contains_odd.calls _ _ (rd_L1 l0_0 x27_2)  false _ ?side1 ?side2 A20.out).mono ?_); (case side1 => repeat (first | exact (Kd.C_below HR117_0.out (by repeat (first | (with_reducible first | exact HB.out | apply below_alloc | apply pw_below_drewN | apply below_drew1 | refine below_set ?_ GE115.out) | exact HB.out))) | (with_reducible refine Kd.C_alloc ?_ _) | (with_reducible refine Kd.C_drewN ?_ _) | (with_reducible refine Kd.C_drew ?_))); (case side2 => exact HC117_0.out); rintro e w' ⟨rfl, ⟨nd, rfl⟩⟩))
                go_roundg k2
                case measure => have := HJ1.out; have := HK2.out; omega
                case rel => exact ⟨(wrap64 (x27_2 + 1)), (by first | rfl | (simp; done) | (simp [*]; done)), H', ⟨by have := HJ1.out; have := HK2.out; omega⟩, ⟨by (with_reducible repeat (first | refine blk_drewN ?_ _ | refine blk_drew ?_ | refine blk_alloc ?_ _)); exact BK115.out⟩, ⟨by repeat (first | (with_reducible first | exact HB.out | apply below_alloc | apply pw_below_drewN | apply below_drew1 | refine below_set ?_ GE115.out) | exact HB.out)⟩⟩
              ·replace c19 := Bool.eq_false_iff.mpr c19
               subst c19
               have H1 : (some 230) = some r := by rw [if_neg (show ¬ (false = true) by decide)] at H; exact H
               clear H
               have H := H1
               clear H1
               obtain rfl := Option.some.inj H
               have p117 : 0 ≤ (x27_2 : Int) := of_decide_eq_true (by first | (with_reducible assumption) | assumption)
               have q117 : x27_2 < (l0_0.length : Int) := of_decide_eq_true (by first | (with_reducible assumption) | assumption)
               obtain ⟨ad117, A117_0, c117_0, e117, hx117_0, hl117_0, hi117_0⟩ := at_L1 HR0_0.out x27_2 p117 q117
               cases e117
               replace hx117_0 := (HB.out.cell (World.block_lt_of_cell? w _ hx117_0)).trans hx117_0
               have HR117_0 := Aside0.mk hi117_0
               have HC117_0 := Aside0.mk hl117_0
               clear hi117_0 hl117_0
               replace p117 := eq_true p117
               replace q117 := eq_true q117
               have hcz24_0 : wr.cell? ⟨gb115, 0, none⟩ = some (.slice (some ad117) l0_0.length c0_0) := (blk_cell BK115.out 0).trans rfl
               have hcz24_1 : wr.cell? ⟨gb115, 1, none⟩ = some (.slice A0_1 l0_1.length c0_1) := (blk_cell BK115.out 1).trans rfl
               have hfz24_0 := blk_frozen BK115.out 0
               have hfz24_1 := blk_frozen BK115.out 1
               have p118 : 0 ≤ (0 : Int) := (by omega)
               have q118 : 0 < (l0_0.length : Int) := of_decide_eq_true (by first | (with_reducible assumption) | assumption)
               obtain ⟨ad118, A118_0, c118_0, e118, hx118_0, hl118_0, hi118_0⟩ := at_L1 HR0_0.out 0 p118 q118
               obtain rfl : ad117 = ad118 := (by injection e118)
               have qi118 : (0 < l0_0.length) = True := eq_true (by omega)
               (try rw [show ((0 : Int)).toNat = 0 from rfl] at hx118_0)
               (try rw [Addr.add_zero'] at hx118_0)
               replace hx118_0 := (HB.out.cell (World.block_lt_of_cell? w _ hx118_0)).trans hx118_0
               have HR118_0 := Aside0.mk hi118_0
               have HC118_0 := Aside0.mk hl118_0
               clear hi118_0 hl118_0
               replace p118 := eq_true p118
               replace q118 := eq_true q118
               have p119 : 0 ≤ (x27_2 : Int) := of_decide_eq_true (by first | (with_reducible assumption) | assumption)
               have q119 : x27_2 < (l0_1.length : Int) := of_decide_eq_true (by first | (with_reducible assumption) | assumption)
               obtain ⟨ad119, e119, hx119_0⟩ := Kd.at_int HR0_1.out x27_2 p119 q119
               cases e119
               replace hx119_0 := (HB.out.cell (World.block_lt_of_cell? w _ hx119_0)).trans hx119_0
               replace p119 := eq_true p119
               replace q119 := eq_true q119
               go_wp2_with (first | (go_at_call 160; (with_reducible refine (program_isPerson.calls (rd l0_1 x27_2) false _ A18.out).mono ?_); rintro e w' ⟨rfl, ⟨nd, rfl⟩⟩))
               go_ret
               exact ⟨by first | rfl | (simp [errW_none, errW_some] <;> rfl) | (simp [*, errW_none, errW_some] <;> rfl), by repeat (first | (with_reducible first | exact HB.out | apply below_alloc | apply pw_below_drewN | apply below_drew1 | refine below_set ?_ GE115.out) | exact HB.out)⟩
             ·rw [if_neg c17] at H
              exact absurd H (by simp)
            ·rw [if_neg c16] at H
             have c16b0 : (((rd_L1 l0_0 x27_2).length : Int) == ((rd_L1 l0_0 0).length : Int)) = false := beq_eq_false_iff_ne.mpr c16
             have c16b1 : (((rd_L1 l0_0 x27_2).length : Int) != ((rd_L1 l0_0 0).length : Int)) = true := bne_iff_ne.mpr c16
             have c16b2 : ((rd_L1 l0_0 x27_2).length == (rd_L1 l0_0 0).length) = false := by first | simpa using c16 | (simp at c16 ⊢; omega)
             obtain rfl := Option.some.inj H
             have p117 : 0 ≤ (x27_2 : Int) := of_decide_eq_true (by first | (with_reducible assumption) | assumption)
             have q117 : x27_2 < (l0_0.length : Int) := of_decide_eq_true (by first | (with_reducible assumption) | assumption)
             obtain ⟨ad117, A117_0, c117_0, e117, hx117_0, hl117_0, hi117_0⟩ := at_L1 HR0_0.out x27_2 p117 q117
             cases e117
             replace hx117_0 := (HB.out.cell (World.block_lt_of_cell? w _ hx117_0)).trans hx117_0
             have HR117_0 := Aside0.mk hi117_0
             have HC117_0 := Aside0.mk hl117_0
             clear hi117_0 hl117_0
             replace p117 := eq_true p117
             replace q117 := eq_true q117
             have hcz25_0 : wr.cell? ⟨gb115, 0, none⟩ = some (.slice (some ad117) l0_0.length c0_0) := (blk_cell BK115.out 0).trans rfl
             have hcz25_1 : wr.cell? ⟨gb115, 1, none⟩ = some (.slice A0_1 l0_1.length c0_1) := (blk_cell BK115.out 1).trans rfl
             have hfz25_0 := blk_frozen BK115.out 0
             have hfz25_1 := blk_frozen BK115.out 1
             have p118 : 0 ≤ (0 : Int) := (by omega)
             have q118 : 0 < (l0_0.length : Int) := of_decide_eq_true (by first | (with_reducible assumption) | assumption)
             obtain ⟨ad118, A118_0, c118_0, e118, hx118_0, hl118_0, hi118_0⟩ := at_L1 HR0_0.out 0 p118 q118
             obtain rfl : ad117 = ad118 := (by injection e118)
             have qi118 : (0 < l0_0.length) = True := eq_true (by omega)
             (try rw [show ((0 : Int)).toNat = 0 from rfl] at hx118_0)
             (try rw [Addr.add_zero'] at hx118_0)
             replace hx118_0 := (HB.out.cell (World.block_lt_of_cell? w _ hx118_0)).trans hx118_0
             have HR118_0 := Aside0.mk hi118_0
             have HC118_0 := Aside0.mk hl118_0
             clear hi118_0 hl118_0
             replace p118 := eq_true p118
             replace q118 := eq_true q118
             go_wp2
             go_ret
             exact ⟨by first | rfl | (simp [errW_none, errW_some] <;> rfl) | (simp [*, errW_none, errW_some] <;> rfl), by repeat (first | (with_reducible first | exact HB.out | apply below_alloc | apply pw_below_drewN | apply below_drew1 | refine below_set ?_ GE115.out) | exact HB.out)⟩
           ·rw [if_neg c15] at H
            exact absurd H (by simp)
         ·rw [if_neg c13] at H
          exact absurd H (by simp)
        ·rw [if_neg c12] at H
         exact absurd H (by simp)
       ·rw [if_neg c11] at H
        have c11b0 : decide (x27_2 < (l0_0.length : Int)) = false := decide_eq_false c11
        clear c11
        obtain rfl := Option.some.inj H
        go_wp2
        go_ret
        exact ⟨by first | rfl | (simp [errW_none, errW_some] <;> rfl) | (simp [*, errW_none, errW_some] <;> rfl), by repeat (first | (with_reducible first | exact HB.out | apply below_alloc | apply pw_below_drewN | apply below_drew1 | refine below_set ?_ GE115.out) | exact HB.out)⟩
    ·rw [if_neg c9] at H
     have c9b0 : ((l0_0.length : Int) == (l0_1.length : Int)) = false := beq_eq_false_iff_ne.mpr c9
     have c9b1 : ((l0_0.length : Int) != (l0_1.length : Int)) = true := bne_iff_ne.mpr c9
     have c9b2 : (l0_0.length == l0_1.length) = false := by first | simpa using c9 | (simp at c9 ⊢; omega)
     obtain rfl := Option.some.inj H
     have hcz26_0 : wc.cell? ⟨gb115, 0, none⟩ = some (.slice A0_0 l0_0.length c0_0) := (blk_cell BK115.out 0).trans rfl
     have hcz26_1 : wc.cell? ⟨gb115, 1, none⟩ = some (.slice A0_1 l0_1.length c0_1) := (blk_cell BK115.out 1).trans rfl
     have hfz26_0 := blk_frozen BK115.out 0
     have hfz26_1 := blk_frozen BK115.out 1
     go_wp2
     go_ret
     exact ⟨by first | rfl | (simp [errW_none, errW_some] <;> rfl) | (simp [*, errW_none, errW_some] <;> rfl), by repeat (first | (with_reducible first | exact HB.out | apply below_alloc | apply pw_below_drewN | apply below_drew1 | refine below_set ?_ GE115.out) | exact HB.out)⟩
def dealing_numbers.f (l0 : List Int) : Option (Bool) := (contains_outQ.f l0).bind fun t122 => (some (!t122))
set_option maxHeartbeats 8000000 in
set_option maxRecDepth 100000 in
theorem dealing_numbers.calls (A0 : Option Addr) (c0 : Nat) (l0 : List Int) (r : Bool) (w : World) (hr0 : Kd.C (Kd.int .i64) w A0 l0.length l0) (hc0 : l0.length ≤ c0) (h : dealing_numbers.f l0 = some r) :
  Calls Try.prog 83 #[.slice A0 l0.length c0] w fun e w' => e = .returned (.bool r) ∧ Drawn0 w w' := by
 have HR0 := Aside0.mk hr0
 have HC0 := Aside0.mk hc0
 clear hr0 hc0
 have H : ((contains_outQ.f l0).bind fun t122 => (some (!t122))) = some r := h
 clear h
 replace H := Option.bind_eq_some_iff.mp H
 obtain ⟨t122, A20, H⟩ := H
 replace H : (some (!t122)) = some r := H
 have A2 := Aside0.mk A20
 clear A20
 obtain rfl := Option.some.inj H
 go_enter Try.func83, Try.ntmps83
 go_wp2_with (first | ((with_reducible refine gate_callee (f := 161) rfl ?_); refine goesL_ (some 4) rfl rfl Try.func161 (by kernel_rfl) rfl #[.slice A0 l0.length c0, .func (.func 162) #[] #[]] rfl (by (try simp only [List.map_toArray, List.map_cons, List.map_nil]); first | done | rfl | (simp only [List.length_drop, List.length_take]; rfl)) ?_; (with_reducible refine (contains_outQ.calls _ _ l0  t122 _ ?side1 ?side2 A2.out).mono ?_); (case side1 => repeat (first | exact HR0.out | (with_reducible refine Kd.C_alloc ?_ _) | (with_reducible refine Kd.C_drewN ?_ _) | (with_reducible refine Kd.C_drew ?_))); (case side2 => exact HC0.out); rintro e w' ⟨rfl, ⟨nd, rfl⟩⟩; refine ⟨_, rfl, ?_⟩))
 go_ret
 exact ⟨by first | rfl | (simp; done) | (simp [*]; done), by repeat (first | exact Drawn0.refl _ | apply Drawn0.step)⟩
def group_Mul.f (a0 : Int) (a1 : Int) : Option (Int × Int) := (group_Valid.f a0).bind fun t113 => (if t113 = true then ((group_Valid.f a1).bind fun t114 => (if t114 = true then (some (Int.tmod (wrap64 (a0 * a1)) 2147483579, 0)) else (some (0, 100)))) else (some (0, 100)))
set_option maxHeartbeats 8000000 in
set_option maxRecDepth 100000 in
theorem group_Mul.calls (a0 : Int) (a1 : Int) (r1 : Int) (r2 : Int) (w : World) (h : group_Mul.f a0 a1 = some (r1, r2)) :
  Calls Try.prog 37 #[.int .i64 a0, .int .i64 a1] w fun e w' => e = .returned (.tuple #[.int .i64 r1, .int .i64 r2]) ∧ Drawn0 w w' := by
 have H : ((group_Valid.f a0).bind fun t113 => (if t113 = true then ((group_Valid.f a1).bind fun t114 => (if t114 = true then (some (Int.tmod (wrap64 (a0 * a1)) 2147483579, 0)) else (some (0, 100)))) else (some (0, 100)))) = some (r1, r2) := h
 clear h
 replace H := Option.bind_eq_some_iff.mp H
 obtain ⟨t113, A30, H⟩ := H
 replace H : (if t113 = true then ((group_Valid.f a1).bind fun t114 => (if t114 = true then (some (Int.tmod (wrap64 (a0 * a1)) 2147483579, 0)) else (some (0, 100)))) else (some (0, 100))) = some (r1, r2) := H
 have A3 := Aside0.mk A30
 clear A30
 by_cases c4 : t113 = true
 ·subst c4
  have H1 : ((group_Valid.f a1).bind fun t114 => (if t114 = true then (some (Int.tmod (wrap64 (a0 * a1)) 2147483579, 0)) else (some (0, 100)))) = some (r1, r2) := by rw [if_pos rfl] at H; exact H
  clear H
  have H := H1
  clear H1
  replace H := Option.bind_eq_some_iff.mp H
  obtain ⟨t114, A50, H⟩ := H
  replace H : (if t114 = true then (some (Int.tmod (wrap64 (a0 * a1)) 2147483579, 0)) else (some (0, 100))) = some (r1, r2) := H
  have A5 := Aside0.mk A50
  clear A50
  by_cases c6 : t114 = true
  ·subst c6
   have H1 : (some (Int.tmod (wrap64 (a0 * a1)) 2147483579, 0)) = some (r1, r2) := by rw [if_pos rfl] at H; exact H
   clear H
   have H := H1
   clear H1
   simp only [Option.some.injEq, Prod.mk.injEq] at H
   obtain ⟨rfl, rfl⟩ := H
   go_enter Try.func37, Try.ntmps37
   go_wp2_with (first | ((with_reducible refine gate_callee (f := 104) rfl ?_); refine goesL_ (some 7) rfl rfl Try.func104 (by kernel_rfl) rfl #[.int .i64 a0] rfl (by (try simp only [List.map_toArray, List.map_cons, List.map_nil]); first | done | rfl | (simp only [List.length_drop, List.length_take]; rfl)) ?_; (with_reducible refine (group_Valid.calls a0 true _ A3.out).mono ?_); rintro e w' ⟨rfl, ⟨nd, rfl⟩⟩; refine ⟨_, rfl, ?_⟩) | (go_at_call 104; (with_reducible refine (group_Valid.calls a1 true _ A5.out).mono ?_); rintro e w' ⟨rfl, ⟨nd, rfl⟩⟩))
   go_ret2
   exact ⟨by first | rfl | (simp; done) | (simp [*]; done), by repeat (first | exact Drawn0.refl _ | apply Drawn0.step)⟩
  ·replace c6 := Bool.eq_false_iff.mpr c6
   subst c6
   have H1 : (some (0, 100)) = some (r1, r2) := by rw [if_neg (show ¬ (false = true) by decide)] at H; exact H
   clear H
   have H := H1
   clear H1
   simp only [Option.some.injEq, Prod.mk.injEq] at H
   obtain ⟨rfl, rfl⟩ := H
   go_enter Try.func37, Try.ntmps37
   go_wp2_with (first | ((with_reducible refine gate_callee (f := 104) rfl ?_); refine goesL_ (some 7) rfl rfl Try.func104 (by kernel_rfl) rfl #[.int .i64 a0] rfl (by (try simp only [List.map_toArray, List.map_cons, List.map_nil]); first | done | rfl | (simp only [List.length_drop, List.length_take]; rfl)) ?_; (with_reducible refine (group_Valid.calls a0 true _ A3.out).mono ?_); rintro e w' ⟨rfl, ⟨nd, rfl⟩⟩; refine ⟨_, rfl, ?_⟩) | (go_at_call 104; (with_reducible refine (group_Valid.calls a1 false _ A5.out).mono ?_); rintro e w' ⟨rfl, ⟨nd, rfl⟩⟩))
   go_ret2
   exact ⟨by first | rfl | (simp; done) | (simp [*]; done), by repeat (first | exact Drawn0.refl _ | apply Drawn0.step)⟩
 ·replace c4 := Bool.eq_false_iff.mpr c4
  subst c4
  have H1 : (some (0, 100)) = some (r1, r2) := by rw [if_neg (show ¬ (false = true) by decide)] at H; exact H
  clear H
  have H := H1
  clear H1
  simp only [Option.some.injEq, Prod.mk.injEq] at H
  obtain ⟨rfl, rfl⟩ := H
  go_enter Try.func37, Try.ntmps37
  go_wp2_with (first | ((with_reducible refine gate_callee (f := 104) rfl ?_); refine goesL_ (some 7) rfl rfl Try.func104 (by kernel_rfl) rfl #[.int .i64 a0] rfl (by (try simp only [List.map_toArray, List.map_cons, List.map_nil]); first | done | rfl | (simp only [List.length_drop, List.length_take]; rfl)) ?_; (with_reducible refine (group_Valid.calls a0 false _ A3.out).mono ?_); rintro e w' ⟨rfl, ⟨nd, rfl⟩⟩; refine ⟨_, rfl, ?_⟩))
  go_ret2
  exact ⟨by first | rfl | (simp; done) | (simp [*]; done), by repeat (first | exact Drawn0.refl _ | apply Drawn0.step)⟩
end Go.Proofs.Ytdbamhckgaoibaa.P
namespace Go.Proofs.Ytdbamhckgaoibaa.P
open Go.RowKit Go.Proofs.YtdbamhckgaoibaaW.PrintWords Go.Proofs.YtdbamhckgaoibaaW.PrintLast Go.Proofs.YtdbamhckgaoibaaW.PrintMore
theorem inF_ofC {l : List Int} (h : l.any outQ = false) : ∀ x ∈ l, Sig.InF x := fun x hx => by
  have := List.any_eq_false.1 h x hx
  unfold Sig.InF
  simp [outQ] at this
  omega
def goodAt (rows : List (List Int)) (owners : List Int) (i : Nat) : Bool :=
  (rows.getD i []).length != 0 && (rows.getD i []).length == (rows.getD 0 []).length && (decide (0 ≤ owners.getD i 0) && decide (owners.getD i 0 ≤ 63)) && !(rows.getD i []).any outQ
def goodFrom (rows : List (List Int)) (owners : List Int) : Nat → Nat → Bool
  | 0, _ => true
  | d + 1, i => goodAt rows owners i && goodFrom rows owners d (i + 1)
def checkP (rows : List (List Int)) (owners : List Int) : Int :=
  if decide (64 < rows.length) || rows.any isLong then 2 else if rows.length = owners.length then (if goodFrom rows owners rows.length 0 then 0 else 230) else 230
theorem rdL0 (rows : List (List Int)) : rd_L1 rows 0 = rows.getD 0 [] := rfl
theorem isPerson_math (n : Int) : program_isPerson.f n = some (decide (0 ≤ n) && decide (n ≤ 63)) := by
  unfold program_isPerson.f
  rw [within_math]; rfl
theorem check_l0 (rows : List (List Int)) (owners : List Int) (hn : rows.length < 1000000) (ho : rows.length = owners.length) (k : Nat) :
    ∀ d i, rows.length - i = d → i ≤ rows.length → program_Check.l0 (k + d + 1) rows (rows.length : Int) (i : Int) rows owners = some (if goodFrom rows owners d i then 0 else 230) := by
  intro d
  induction d with
  | zero =>
    intro i hd hi
    obtain rfl : i = rows.length := by omega
    rw [program_Check.l0, if_neg (by omega)]; rfl
  | succ d ih =>
    intro i hd hi
    rw [program_Check.l0, if_pos (by omega), if_pos (by omega), if_pos (by omega), rd_L1_nat, rd_nat, rdL0, isPerson_math, goodFrom]
    unfold goodAt
    by_cases h0 : (rows.getD i []).length = 0
    · have e0 : ((rows.getD i []).length != 0) = false := bne_eq_false_iff_eq.2 h0
      rw [if_pos (by omega), e0]; simp only [Bool.false_and, Bool.false_eq_true, if_false]
    · rw [if_neg (by omega), if_pos (by omega)]
      by_cases h1 : (rows.getD i []).length = (rows.getD 0 []).length
      · rw [if_pos (by omega), if_pos (by omega)]
        have e0 : ((rows.getD i []).length != 0) = true := bne_iff_ne.2 h0
        have e1 : ((rows.getD i []).length == (rows.getD 0 []).length) = true := beq_iff_eq.2 h1
        rw [e0, e1]
        simp only [Option.bind_some, Bool.true_and]
        cases hp : (decide (0 ≤ owners.getD i 0) && decide (owners.getD i 0 ≤ 63)) with
        | false => simp
        | true =>
          rw [if_pos rfl]
          unfold contains_odd.f
          simp only [Option.bind_some]
          cases hq : (rows.getD i []).any outQ with
          | true => simp
          | false =>
            rw [if_neg (by simp), wrap_succ (by omega), ← Nat.add_assoc, ih (i + 1) (by omega) (by omega)]
            simp
      · rw [if_neg (by omega)]
        have e1 : ((rows.getD i []).length == (rows.getD 0 []).length) = false := beq_eq_false_iff_ne.2 h1
        rw [e1]; simp
theorem check_math (rows : List (List Int)) (owners : List Int) (k : Nat) (hk : 66 ≤ k) : program_Check.f k rows owners = some (checkP rows owners) := by
  obtain ⟨k, rfl⟩ : ∃ k', k = k' + 1 := ⟨k - 1, by omega⟩
  unfold program_Check.f checkP
  by_cases h : 64 < rows.length
  · rw [if_pos (by omega), program_Check.j0, if_pos rfl]; simp [h]
  · rw [if_neg (by omega)]
    unfold contains_long.f
    simp only [Option.bind_some]
    rw [program_Check.j0]
    cases hl : rows.any isLong with
    | true => rw [if_pos rfl]; simp
    | false =>
      rw [if_neg (by simp)]
      have e : decide (64 < rows.length) = false := decide_eq_false h
      rw [e]
      by_cases ho : rows.length = owners.length
      · rw [if_pos (by omega), show k = (k - rows.length - 1) + rows.length + 1 from by omega]
        have := check_l0 rows owners (by omega) ho (k - rows.length - 1) rows.length 0 (by omega) (by omega)
        rw [show ((0 : Nat) : Int) = 0 from rfl] at this
        rw [this]
        simp [ho]
      · rw [if_neg (by omega)]
        simp [ho]
structure RightP (rows : List (List Int)) (owners : List Int) : Prop where
  few : rows.length ≤ 64
  own : rows.length = owners.length
  row : ∀ i, i < rows.length → (rows.getD i []).length ≠ 0 ∧ (rows.getD i []).length = (rows.getD 0 []).length ∧ (rows.getD i []).length ≤ 64 ∧ ∀ x ∈ rows.getD i [], Sig.InF x
  owner : ∀ i, i < rows.length → 0 ≤ owners.getD i 0 ∧ owners.getD i 0 ≤ 63
theorem goodFrom_iff (rows : List (List Int)) (owners : List Int) : ∀ d i, goodFrom rows owners d i = true ↔ ∀ j, i ≤ j → j < i + d → goodAt rows owners j = true
  | 0, i => ⟨fun _ j h1 h2 => by omega, fun _ => rfl⟩
  | d + 1, i => by
    rw [goodFrom, Bool.and_eq_true, goodFrom_iff rows owners d (i + 1)]
    constructor
    · rintro ⟨h1, h2⟩ j h3 h4
      by_cases e : j = i
      · subst e; exact h1
      · exact h2 j (by omega) (by omega)
    · exact fun h => ⟨h i (by omega) (by omega), fun j h3 h4 => h j (by omega) (by omega)⟩
theorem check_ok {rows : List (List Int)} {owners : List Int} (h : checkP rows owners = 0) : RightP rows owners := by
  unfold checkP at h
  split at h
  · cases h
  · rename_i h1
    simp only [Bool.or_eq_true, decide_eq_true_eq, not_or] at h1
    split at h
    · rename_i h2
      split at h
      · rename_i h3
        rw [goodFrom_iff] at h3
        have hg : ∀ i, i < rows.length → _ := fun i hi => by
          have := h3 i (Nat.zero_le _) (by omega)
          unfold goodAt at this
          simp only [Bool.and_eq_true, bne_iff_ne, beq_iff_eq, decide_eq_true_eq, Bool.not_eq_true'] at this
          exact this
        refine ⟨by omega, h2, fun i hi => ?_, fun i hi => ?_⟩
        · obtain ⟨⟨⟨q1, q2⟩, q3⟩, q4⟩ := hg i hi
          refine ⟨q1, q2, ?_, inF_ofC q4⟩
          have hm := Sig.getD_mem hi
          refine Nat.le_of_not_lt fun hlt => h1.2 (List.any_eq_true.2 ⟨_, hm, ?_⟩)
          unfold isLong
          exact decide_eq_true hlt
        · obtain ⟨⟨⟨q1, q2⟩, q3⟩, q4⟩ := hg i hi
          exact q3
      · cases h
    · cases h
end Go.Proofs.Ytdbamhckgaoibaa.P
namespace Go.Proofs.Ytdbamhckgaoibaa.P
open Go.RowKit Go.Proofs.YtdbamhckgaoibaaW.PrintWords Go.Proofs.YtdbamhckgaoibaaW.PrintLast Go.Proofs.YtdbamhckgaoibaaW.PrintMore
set_option linter.unusedVariables false
set_option linter.unusedSimpArgs false
theorem rows_c (A0 A1 As : Option Addr) (n0 c0 n1 c1 ns cs : Nat) (w : World) : Calls Try.prog 94 #[.agg #[.slice A0 n0 c0, .slice A1 n1 c1], .slice As ns cs] w fun e w' =>
    e = .returned (.func (.func 171) #[] #[.pointer (some ⟨w.heap.size + 1, 0, none⟩), .pointer (some ⟨w.heap.size, 0, none⟩)]) ∧ w' = (w.alloc (.cells #[.slice A0 n0 c0, .slice A1 n1 c1] 25)).alloc (.cells #[.slice As ns cs] 26) := by
  have hmf : ∀ (fn : Fn) (first cap : Array Value) (w : World), (Instr.makeFunc fn first cap).run Try.prog w = .ok (.func fn first cap) w := fun _ _ _ _ => rfl
  go_enter Try.func94, Try.ntmps94
  go_wp2
  go_ret
  exact ⟨by first | rfl | (simp; done) | (simp; rfl), rfl⟩
def inQ (x : Int) : Bool := decide (0 ≤ x) && decide (x < 1073741789)
def rightS (n : Nat) (s : S38) : Bool := decide (0 ≤ s.f0) && decide (s.f0 < n) && inQ s.f1
def sharesOk (n : Nat) : Int → List S38 → Bool
  | _, [] => true
  | last, s :: l => rightS n s && decide (last < s.f0) && sharesOk n s.f0 l
def colsP (rows : List (List Int)) : Nat := if rows.length = 0 then 1 else (rows.getD 0 []).length
def targetP (rows : List (List Int)) : List Int := (List.replicate (colsP rows) 0).set 0 1
def rowsOf (rows : List (List Int)) (ls : List S38) : List (List Int) := ls.map fun s => rows.getD s.f0.toNat []
def recT (rows : List (List Int)) (ls : List S38) : Int × Bool × Int :=
  match Sig.combine (rowsOf rows ls) (targetP rows) with
  | some y => (sumQ (fun i => y.getD i 0 * (rd_T38 ls (i : Int)).f1 % 1073741789) ls.length, true, 0)
  | none => (0, false, 0)
def recQ (rows : List (List Int)) (owners : List Int) (ls : List S38) : Int × Bool × Int :=
  if checkP rows owners = 0 then
    if sharesOk rows.length (-1) ls then recT rows ls else (0, false, 340)
  else (0, false, checkP rows owners)
theorem cols_math {rows : List (List Int)} {owners : List Int} : dealing_columns.f rows owners = some (colsP rows : Int) := by
  unfold dealing_columns.f colsP
  by_cases h : rows.length = 0
  · rw [if_pos (by omega), if_pos h]; rfl
  · rw [if_neg (by omega), if_neg h, if_pos (by omega), rdL0]
theorem sharesOk_count {n : Nat} : ∀ (ls : List S38) (last : Int), sharesOk n last ls = true → -1 ≤ last → (ls.length : Int) ≤ n - 1 - last ∨ ls = []
  | [], _, _, _ => .inr rfl
  | s :: l, last, h, h1 => by
    simp only [sharesOk, Bool.and_eq_true, decide_eq_true_eq, rightS] at h
    obtain ⟨⟨⟨⟨h2, h3⟩, _⟩, h4⟩, h5⟩ := h
    left
    rcases sharesOk_count l s.f0 h5 (by omega) with h6 | h6
    · rw [List.length_cons]; omega
    · subst h6; simp; omega
theorem sharesOk_all {n : Nat} : ∀ (ls : List S38) (last : Int), sharesOk n last ls = true → ∀ s ∈ ls, rightS n s = true
  | [], _, _, _, h => by cases h
  | s :: l, last, h, x, hx => by
    simp only [sharesOk, Bool.and_eq_true] at h
    rcases List.mem_cons.1 hx with rfl | hx
    · exact h.1.1
    · exact sharesOk_all l s.f0 h.2 x hx
theorem targetP_length (rows : List (List Int)) : (targetP rows).length = colsP rows := by simp [targetP]
theorem targetP_inF (rows : List (List Int)) : ∀ x ∈ targetP rows, Sig.InF x := fun x hx => by
  rcases List.mem_or_eq_of_mem_set hx with h | rfl
  · rw [List.eq_of_mem_replicate h]; exact ⟨by decide, by decide⟩
  · exact ⟨by decide, by decide⟩
theorem combOk_rec {rows : List (List Int)} {owners : List Int} {ls : List S38} (hc : checkP rows owners = 0) (hs : sharesOk rows.length (-1) ls = true) : Sig.RectT (rowsOf rows ls) (targetP rows) ∧ (rowsOf rows ls).length ≤ 64 ∧ 0 < (targetP rows).length ∧ (targetP rows).length ≤ 64 := by
  have hP := check_ok hc
  have hcol : ∀ s ∈ ls, rows.length ≠ 0 := fun s hx => by
    have := sharesOk_all ls _ hs s hx
    simp only [rightS, Bool.and_eq_true, decide_eq_true_eq] at this
    omega
  refine ⟨⟨fun row hr => ?_, targetP_inF rows⟩, ?_, ?_, ?_⟩
  · obtain ⟨s, hx, rfl⟩ := List.mem_map.1 hr
    have h1 := sharesOk_all ls _ hs s hx
    simp only [rightS, Bool.and_eq_true, decide_eq_true_eq] at h1
    have h2 := hP.row s.f0.toNat (by omega)
    refine ⟨?_, h2.2.2.2⟩
    rw [targetP_length, colsP, if_neg (hcol s hx)]
    exact h2.2.1
  · rw [rowsOf, List.length_map]
    have := hP.few
    rcases sharesOk_count ls _ hs (Int.le_refl _) with h | h
    · omega
    · rw [h]; simp
  · rw [targetP_length, colsP]
    split
    · decide
    · have := (hP.row 0 (by omega)).1
      omega
  · rw [targetP_length, colsP]
    split
    · decide
    · exact (hP.row 0 (by omega)).2.2.1
end Go.Proofs.Ytdbamhckgaoibaa.P
namespace Go.Proofs.Ytdbamhckgaoibaa.P
open Go.RowKit
def ordQ : Nat := 1073741789
theorem isEl_nat (x : Int) : isEl x = true ↔ 1 ≤ x ∧ x < 2147483579 ∧ x.toNat ^ ordQ % 2147483579 = 1 := by
  have e : ∀ y : Nat, y ^ (2147483579 / 2) = y ^ ordQ := fun y => by rw [show 2147483579 / 2 = ordQ from rfl]
  unfold isEl
  rw [decide_eq_true_eq]
  refine ⟨fun ⟨h1, h2, h3⟩ => ⟨h1, h2, ?_⟩, fun ⟨h1, h2, h3⟩ => ⟨h1, h2, ?_⟩⟩
  · have hn : ¬ 2147483579 ∣ x.toNat := fun hd => by have := Nat.le_of_dvd (by omega) hd; omega
    rw [← e]
    exact (Sig.euler Sig.prime_P (by decide) hn).2 h3
  · have hn : ¬ 2147483579 ∣ x.toNat := fun hd => by have := Nat.le_of_dvd (by omega) hd; omega
    rw [← e] at h3
    exact (Sig.euler Sig.prime_P (by decide) hn).1 h3
theorem isEl_iff (x : Int) : isEl x = true ↔ 1 ≤ x ∧ x < 2147483579 ∧ x ^ ordQ % 2147483579 = 1 := by
  rw [isEl_nat]
  constructor
  · rintro ⟨h1, h2, h3⟩
    refine ⟨h1, h2, ?_⟩
    rw [show x = (x.toNat : Int) by omega, ← Int.natCast_pow]
    have := congrArg (fun n : Nat => (n : Int)) h3
    simpa using this
  · rintro ⟨h1, h2, h3⟩
    refine ⟨h1, h2, ?_⟩
    rw [show x = (x.toNat : Int) by omega, ← Int.natCast_pow] at h3
    omega
theorem el_of {x : Int} (h : x ^ ordQ % 2147483579 = 1) : isEl (x % 2147483579) = true := by
  rw [isEl_iff]
  have h1 : (x % 2147483579) ^ ordQ % 2147483579 = 1 := by rw [Sig.pow_emod]; exact h
  refine ⟨?_, by omega, h1⟩
  have h0 : x % 2147483579 ≠ 0 := fun h0 => by
    rw [h0, Int.zero_pow (by decide)] at h1
    omega
  omega
theorem el_one_pow {x : Int} (h : isEl x = true) : x ^ ordQ % 2147483579 = 1 := ((isEl_iff x).1 h).2.2
theorem mulmod_one {a b : Int} (ha : a % 2147483579 = 1) (hb : b % 2147483579 = 1) : a * b % 2147483579 = 1 := by
  rw [Int.mul_emod, ha, hb]; rfl
theorem el_mul {a b : Int} (ha : isEl a = true) (hb : isEl b = true) : isEl (a * b % 2147483579) = true :=
  el_of (by rw [Int.mul_pow]; exact mulmod_one (el_one_pow ha) (el_one_pow hb))
theorem pow_one_mod {x : Int} (h : x % 2147483579 = 1) (n : Nat) : x ^ n % 2147483579 = 1 := by
  rw [← Sig.pow_emod, h, Int.one_pow]; rfl
theorem el_pow {a : Int} (ha : isEl a = true) (n : Nat) : isEl (a ^ n % 2147483579) = true :=
  el_of (by rw [← Int.pow_mul, Nat.mul_comm, Int.pow_mul]; exact pow_one_mod (el_one_pow ha) n)
theorem el_pow_mod {a : Int} (ha : isEl a = true) (n : Nat) : a ^ n % 2147483579 = a ^ (n % ordQ) % 2147483579 := by
  conv => lhs; rw [← Nat.div_add_mod n ordQ, Int.pow_add, Int.pow_mul, Int.mul_emod, pow_one_mod (el_one_pow ha), Int.one_mul, Int.emod_emod]
theorem two_pow_four {m n : Nat} (h : m = 2 * n) : (2 : Nat) ^ m = 4 ^ n := by rw [h, Nat.pow_mul]
theorem el_four : isEl 4 = true := by
  have h := Sig.fermat_gen (p := 2147483579) (a := 2) Sig.prime_P (by decide) (by omega)
  rw [two_pow_four (show 2147483579 - 1 = 2 * ordQ from rfl)] at h
  have e4 : (4 : Int).toNat = 4 := rfl
  rw [isEl_nat, e4]
  exact ⟨by decide, by decide, h⟩
end Go.Proofs.Ytdbamhckgaoibaa.P
namespace Go.Proofs.Ytdbamhckgaoibaa.P
open Go.RowKit Go.Proofs.YtdbamhckgaoibaaW.PrintWords Go.Proofs.YtdbamhckgaoibaaW.PrintLast Go.Proofs.YtdbamhckgaoibaaW.PrintMore
def shareQ (rows : List (List Int)) (s : List Int) (i : Nat) : S38 := ⟨(i : Int), Sig.dot (rows.getD i []) s % 1073741789⟩
def sharesQ (rows : List (List Int)) (s : List Int) : List S38 := (List.range rows.length).map (shareQ rows s)
def commitQ (n : Int) : Int := (4 : Int) ^ (n % 1073741789).toNat % 2147483579
theorem pow_four (n : Int) : group_Pow.f 4 n = some (commitQ n, 0) := by
  unfold group_Pow.f
  rw [el_four]; rfl
theorem commitQ_mod (a : Int) : commitQ (a % 1073741789) = commitQ a := by unfold commitQ; rw [Int.emod_emod]
theorem commitQ_el (a : Int) : isEl (commitQ a) = true := el_pow el_four _
theorem commitQ_nat {a : Int} {m : Nat} (h : (a % 1073741789).toNat = m % ordQ) : commitQ a = 4 ^ m % 2147483579 := by
  unfold commitQ
  rw [h, ← el_pow_mod el_four]
theorem commitQ_add (a b : Int) : commitQ a * commitQ b % 2147483579 = commitQ (a + b) := by
  rw [commitQ_nat (a := a + b) (m := (a % 1073741789).toNat + (b % 1073741789).toNat) (by unfold ordQ; omega)]
  unfold commitQ
  rw [← Int.mul_emod, ← Int.pow_add]
theorem nat_mul_mod (a b : Int) : (a * b % 1073741789).toNat = (a % 1073741789).toNat * (b % 1073741789).toNat % ordQ := by
  have h1 : ((a % 1073741789).toNat : Int) = a % 1073741789 := by omega
  have h2 : ((b % 1073741789).toNat : Int) = b % 1073741789 := by omega
  have h3 : (((a % 1073741789).toNat * (b % 1073741789).toNat % ordQ : Nat) : Int) = a * b % 1073741789 := by
    unfold ordQ
    rw [Int.natCast_emod, Int.natCast_mul, h1, h2, Int.mul_emod a b]; rfl
  omega
theorem commitQ_pow (a e : Int) : commitQ a ^ (e % 1073741789).toNat % 2147483579 = commitQ (a * e) := by
  rw [commitQ_nat (a := a * e) (nat_mul_mod a e)]
  unfold commitQ
  rw [Sig.pow_emod, ← Int.pow_mul]
theorem commitQ_zero : commitQ 0 = 1 := by unfold commitQ; rfl
theorem pow_el {c : Int} (h : isEl c = true) (e : Int) : group_Pow.f c e = some (c ^ (e % 1073741789).toNat % 2147483579, 0) := by
  unfold group_Pow.f
  rw [h]; rfl
theorem valid_math (a : Int) : group_Valid.f a = some (isEl a) := by first | rfl | (unfold group_Valid.f; rfl)
theorem el_range {a : Int} (h : isEl a = true) : 1 ≤ a ∧ a < 2147483579 := ⟨((isEl_iff a).1 h).1, ((isEl_iff a).1 h).2.1⟩
theorem mul_els {a b : Int} (ha : isEl a = true) (hb : isEl b = true) : group_Mul.f a b = some (a * b % 2147483579, 0) := by
  have h1 := el_range ha
  have h2 := el_range hb
  have hr := mulP_range (x := a) (y := b) ⟨by omega, h1.2⟩ ⟨by omega, h2.2⟩
  unfold group_Mul.f
  rw [valid_math, valid_math, ha, hb]
  simp only [Option.bind_some, if_true]
  rw [wrap_small hr.1 (by omega), tmod_small (m := 2147483579) hr.1]
theorem commit_mul (y z : Int) : group_Mul.f (commitQ y) (commitQ z) = some (commitQ (y + z), 0) := by rw [mul_els (commitQ_el y) (commitQ_el z), commitQ_add]
end Go.Proofs.Ytdbamhckgaoibaa.P
