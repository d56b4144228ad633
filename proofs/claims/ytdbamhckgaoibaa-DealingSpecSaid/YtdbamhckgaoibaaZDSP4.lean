/- A part of the proof of DealingSpec: The calls of linear.turned come to what their functions in Lean say.; linear.turned makes the table of the equations.; The reference's field and rows (layers 9, 13), in plain words.; The calls of signatoryref13.Reduced come to what their functions in Lean say.; The reference's reduction (layer 13), in plain words.; A slice that is only read: its length, and what it reads as; literals.; signatoryref13.Reduced's contract in the form that Combine's print asks: what it returns is told apart from its pivots alone. -/
import Derived.Test.YtdbamhckgaoibaaZDSP3
namespace Go.Proofs.Ytdbamhckgaoibaa.P
open Go.RowKit Go.Proofs.YtdbamhckgaoibaaW.PrintWords Go.Proofs.YtdbamhckgaoibaaW.PrintLast Go.Proofs.YtdbamhckgaoibaaW.PrintMore
attribute [local go_sem] max2_int min2_int max_two min_two max_three min_three max_four min_four
set_option linter.unusedVariables false
set_option linter.unusedSimpArgs false
mutual
def linear_turned.l0 : Nat → List (List Int) → List (List Int) → List Int → Int → Int → Option ((List (List Int)))
 | 0, _, _, _, _, _ => none
 | k + 1, x0, x5, x13, x14, x15 => if x15 < x14 then (if 0 ≤ x15 then (if x15 < (x13.length : Int) then (linear_turned.l1 k x0 x5 x15 (rd x13 x15) x13 x14 x15 x0 (x0.length : Int) 0) else (none)) else (none)) else (some x5)
def linear_turned.l1 : Nat → List (List Int) → List (List Int) → Int → Int → List Int → Int → Int → List (List Int) → Int → Int → Option ((List (List Int)))
 | 0, _, _, _, _, _, _, _, _, _, _ => none
 | k + 1, x0, x5, x6, x7, x13, x14, x15, x20, x21, x22 => if x22 < x21 then (if 0 ≤ x22 then (if x22 < (x20.length : Int) then (if 0 ≤ x6 then (if x6 < (x5.length : Int) then (if x6 < ((rd_L1 x20 x22).length : Int) then (if (rd_L1 x5 x6).length < 17592186044416 then (linear_turned.l1 k x0 (x5.set (x6 : Int).toNat ((rd_L1 x5 x6) ++ [rd (rd_L1 x20 x22) x6])) x6 x7 x13 x14 x15 x20 x21 (wrap64 (x22 + 1))) else (none)) else (none)) else (none)) else (none)) else (none)) else (none)) else (if 0 ≤ x6 then (if x6 < (x5.length : Int) then (if (rd_L1 x5 x6).length < 17592186044416 then (linear_turned.l0 k x0 (x5.set (x6 : Int).toNat ((rd_L1 x5 x6) ++ [x7])) x13 x14 (wrap64 (x15 + 1))) else (none)) else (none)) else (none))
end
def linear_turned.f (k : Nat) (l0 : List (List Int)) (l1 : List Int) : Option ((List (List Int))) := if 0 ≤ (l1.length : Int) then (if ((l1.length : Int) : Int).toNat ≤ 11728124029610 then (linear_turned.l0 k l0 (List.replicate ((l1.length : Int) : Int).toNat []) l1 (l1.length : Int) 0) else (none)) else (none)
def linear_turned.T8 : Bool × List (List Nat × List Nat) := (true, [([], []), ([], []), ([], []), ([], []), ([2, 3], [2, 3]), ([4], [4]), ([], []), ([], []), ([6, 7], [6, 7]), ([8], [8]), ([9], [9]), ([5, 10], [5, 10]), ([0, 1, 0, 1, 2, 3, 4, 5, 6, 7, 8, 9, 10, 11], [0, 1]), ([12, 11, 11, 0, 1, 2, 3, 4, 5, 6, 7, 8, 9, 10, 11], [11, 12])])
def linear_turned.B8 : List Nat := [0, 0, 0, 0, 12, 28, 0, 0, 192, 448, 960, 2044, 4095, 8191]
theorem linear_turned.tab8 : rtab .any (opsOf Try.f169 8) = linear_turned.T8 := by kernel_rfl
theorem linear_turned.bits8 : waitsOk linear_turned.T8.2 linear_turned.B8 = true := by kernel_rfl
set_option maxHeartbeats 8000000 in
set_option maxRecDepth 100000 in
theorem linear_turned.calls (k : Nat) (A0 : Option Addr) (c0 : Nat) (l0 : List (List Int)) (A1 : Option Addr) (c1 : Nat) (l1 : List Int) (r : List (List Int)) (w : World) (hr0 : Kd.C (Kd.slice 3 (Kd.int .i64)) w A0 l0.length l0) (hc0 : l0.length ≤ c0) (hr1 : Kd.C (Kd.int .i64) w A1 l1.length l1) (hc1 : l1.length ≤ c1) (h : linear_turned.f k l0 l1 = some r) :
  Calls Try.prog 169 #[.slice A0 l0.length c0, .slice A1 l1.length c1] w fun e w' => ∃ v0_ : Value, e = .returned (v0_) ∧ Kd.S (Kd.slice 3 (Kd.int .i64)) 23 w' w.heap.size (fun _ => True) v0_ r ∧ Below w.heap.size w w' := by
 have HR0 := Aside0.mk hr0; have HC0 := Aside0.mk hc0; clear hr0 hc0; have HR1 := Aside0.mk hr1; have HC1 := Aside0.mk hc1; clear hr1 hc1; have HB := Aside0.mk (Below.refl w.heap.size w); have H : (if 0 ≤ (l1.length : Int) then (if ((l1.length : Int) : Int).toNat ≤ 11728124029610 then (linear_turned.l0 k l0 (List.replicate ((l1.length : Int) : Int).toNat []) l1 (l1.length : Int) 0) else (none)) else (none)) = some r := h; clear h
 by_cases c3 : 0 ≤ (l1.length : Int)
 ·rw [if_pos c3] at H
  have c3b0 := eq_true c3; have c3b1 : decide (0 ≤ (l1.length : Int)) = true := decide_eq_true c3; clear c3
  by_cases c4 : ((l1.length : Int) : Int).toNat ≤ 11728124029610
  ·rw [if_pos c4] at H
   have c4b0 := eq_true c4; have c4b1 : decide (((l1.length : Int) : Int).toNat ≤ 11728124029610) = true := decide_eq_true c4; clear c4
   obtain ⟨y123, hy123⟩ : ∃ y_ : List (List Int), y_ = (List.replicate ((l1.length : Int) : Int).toNat []) := ⟨_, rfl⟩
   replace H : (linear_turned.l0 k l0 y123 l1 (l1.length : Int) 0) = some r := by first | (rw [hy123]; with_reducible exact H) | (have H2_ := (Option.bind_some _ _).symm.trans H; rw [hy123]; with_reducible exact H2_) | (have H2_ := (Option.bind_some _ _).symm.trans H; with_reducible exact H2_) | with_reducible exact H | (rw [hy123]; exact H) | exact H
   have Ny123 := Aside0.mk hy123; clear hy123; have H' := Aside0.mk H; clear H
   go_enter Try.func169, Try.ntmps169
   go_wp2_with (first | ((with_reducible refine gate_dst (N := 12) rfl ?_); refine Kd.S_make (Kd.slice 3 (Kd.int .i64)) _ 23 rfl (N := 12) rfl 134 _ _ rfl (l1.length : Int) rfl rfl Try.underlying134 (.slice none 0 0) 24 info23 rfl (by decide) (by omega) [] (ok := fun _ => True) (okp := fun _ => True) ⟨_, rfl, Kd.R_nil _ _ _ _ _⟩ (fun _ hk => hk) trivial (of_decide_eq_true as_) (Nat.le_trans (Nat.mul_le_mul_right _ (of_decide_eq_true as_ : (l1.length : Int).toNat ≤ 11728124029610)) (by omega)) (Below.refl _ _) (Nat.le_refl _) ?_; intro v124 w5 ho6 hb hg_ hnew_; clear hg_ hnew_; (first | rw [← Ny123.out] at ho6 | (simp only [Int.reduceToNat] at ho6; rw [← Ny123.out] at ho6)); have n0_ := Aside0.mk (Kd.S_lower ho6 (below_size hb_)); have n1_ := Aside0.mk (below_step hb_ hb); clear HB; have HO125 := n0_; have HB := n1_; clear n0_ n1_; clear hb ho6))
   go_loopg [15] k (fun kq v15 w' => ∃ (x5_1 : List (List Int)) (x15_1 : Int), v15 = .int .i64 x15_1 ∧ Aside0 (linear_turned.l0 kq l0 x5_1 l1 (l1.length : Int) x15_1 = some r) ∧ Aside0 (kq ≤ k) ∧ Aside0 (Kd.S (Kd.slice 3 (Kd.int .i64)) 23 w' w.heap.size (fun _ => True) v124 x5_1) ∧ Aside0 (Below w.heap.size w w'))
   case atStart => exact ⟨(y123), (0), rf_, H', ⟨Nat.le_refl _⟩, ⟨rs_ HO125.out⟩, ⟨hb_⟩⟩
   case round =>
    clear H'; (try clear c1); (try clear p2); (try clear c3); (try clear c3b0); (try clear c3b1); (try clear c4); (try clear c4b0); (try clear c4b1); obtain ⟨x5_1, x15_1, rfl, HA, HK1, HO_5, HB⟩ := hrel
    cases gk with
    | zero => exact absurd HA.out (by simp [linear_turned.l0])
    | succ k1 =>
     have H := HA.out; clear HA; simp only [linear_turned.l0] at H
     by_cases c7 : x15_1 < (l1.length : Int)
     ·rw [if_pos c7] at H
      have c7b0 : decide (x15_1 < (l1.length : Int)) = true := decide_eq_true c7; clear c7
      by_cases c8 : 0 ≤ x15_1
      ·rw [if_pos c8] at H
       have c8b0 : decide (0 ≤ x15_1) = true := decide_eq_true c8; clear c8
       by_cases c9 : x15_1 < (l1.length : Int)
       ·rw [if_pos c9] at H
        have c9b0 : decide (x15_1 < (l1.length : Int)) = true := decide_eq_true c9; clear c9; have H' := Aside0.mk H; clear H; have p126 : 0 ≤ (x15_1 : Int) := of_decide_eq_true as_; have q126 : x15_1 < (l1.length : Int) := of_decide_eq_true as_; obtain ⟨ad126, e126, hx126_0⟩ := Kd.at_int HR1.out x15_1 p126 q126; cases e126; replace hx126_0 := (HB.out.cell (World.block_lt_of_cell? w _ hx126_0)).trans hx126_0; replace p126 := eq_true p126; replace q126 := eq_true q126; go_wp2
        go_loopg [22] k1 (fun kq v22 w' => ∃ (x5_2 : List (List Int)) (x22_2 : Int), v22 = .int .i64 x22_2 ∧ Aside0 (linear_turned.l1 kq l0 x5_2 x15_1 (rd l1 x15_1) l1 (l1.length : Int) x15_1 l0 (l0.length : Int) x22_2 = some r) ∧ Aside0 (kq ≤ k1) ∧ Aside0 (Kd.S (Kd.slice 3 (Kd.int .i64)) 23 w' w.heap.size (fun _ => True) v124 x5_2) ∧ Aside0 (Below w.heap.size w w'))
        case atStart => exact ⟨(x5_1), (0), rf_, H', ⟨Nat.le_refl _⟩, ⟨rs_ HO_5.out⟩, ⟨hb_⟩⟩
        case round =>
         clear H'; (try clear c1); (try clear p1); (try clear q1); (try clear hx1); (try clear p2); (try clear c3); (try clear c3b0); (try clear c3b1); (try clear c4); (try clear c4b0); (try clear c4b1); (try clear c7); (try clear c7b0); (try clear c8); (try clear c8b0); (try clear c9); (try clear c9b0); (try clear hx126_0); (try clear p126); (try clear p2); (try clear q126); obtain ⟨x5_2, x22_2, rfl, HA, HK2, HO_5, HB⟩ := hrel
         cases gk with
         | zero => exact absurd HA.out (by simp [linear_turned.l1])
         | succ k2 =>
          have H := HA.out; clear HA; simp only [linear_turned.l1] at H
          by_cases c10 : x22_2 < (l0.length : Int)
          ·rw [if_pos c10] at H
           have c10b0 : decide (x22_2 < (l0.length : Int)) = true := decide_eq_true c10; clear c10
           by_cases c11 : 0 ≤ x22_2
           ·rw [if_pos c11] at H
            have c11b0 : decide (0 ≤ x22_2) = true := decide_eq_true c11; clear c11
            by_cases c12 : x22_2 < (l0.length : Int)
            ·rw [if_pos c12] at H
             have c12b0 : decide (x22_2 < (l0.length : Int)) = true := decide_eq_true c12; clear c12
             by_cases c13 : 0 ≤ x15_1
             ·rw [if_pos c13] at H
              have c13b0 : decide (0 ≤ x15_1) = true := decide_eq_true c13; clear c13
              by_cases c14 : x15_1 < (x5_2.length : Int)
              ·rw [if_pos c14] at H
               have c14b0 : decide (x15_1 < (x5_2.length : Int)) = true := decide_eq_true c14; clear c14
               by_cases c15 : x15_1 < ((rd_L1 l0 x22_2).length : Int)
               ·rw [if_pos c15] at H
                have c15b0 : decide (x15_1 < ((rd_L1 l0 x22_2).length : Int)) = true := decide_eq_true c15; clear c15
                by_cases c16 : (rd_L1 x5_2 x15_1).length < 17592186044416
                ·rw [if_pos c16] at H
                 have LMc16 := Aside0.mk c16; clear c16
                 obtain ⟨y130, hy130⟩ : ∃ y_ : List Int, y_ = ((rd_L1 x5_2 x15_1) ++ [rd (rd_L1 l0 x22_2) x15_1]) := ⟨_, rfl⟩
                 replace H : (linear_turned.l1 k2 l0 (x5_2.set (x15_1 : Int).toNat y130) x15_1 (rd l1 x15_1) l1 (l1.length : Int) x15_1 l0 (l0.length : Int) (wrap64 (x22_2 + 1))) = some r := by first | (rw [hy130]; with_reducible exact H) | (have H2_ := (Option.bind_some _ _).symm.trans H; rw [hy130]; with_reducible exact H2_) | (have H2_ := (Option.bind_some _ _).symm.trans H; with_reducible exact H2_) | with_reducible exact H | (rw [hy130]; exact H) | exact H
                 have Ny130 := Aside0.mk hy130; clear hy130
                 obtain ⟨y133, hy133⟩ : ∃ y_ : List (List Int), y_ = (x5_2.set (x15_1 : Int).toNat y130) := ⟨_, rfl⟩
                 replace H : (linear_turned.l1 k2 l0 y133 x15_1 (rd l1 x15_1) l1 (l1.length : Int) x15_1 l0 (l0.length : Int) (wrap64 (x22_2 + 1))) = some r := by first | (rw [hy133]; with_reducible exact H) | (have H2_ := (Option.bind_some _ _).symm.trans H; rw [hy133]; with_reducible exact H2_) | (have H2_ := (Option.bind_some _ _).symm.trans H; with_reducible exact H2_) | with_reducible exact H | (rw [hy133]; exact H) | exact H
                 have Ny133 := Aside0.mk hy133; clear hy133; have H' := Aside0.mk H; clear H; have p127 : 0 ≤ (x22_2 : Int) := of_decide_eq_true as_; have q127 : x22_2 < (l0.length : Int) := of_decide_eq_true as_; obtain ⟨ad127, A127_0, c127_0, e127, hx127_0, hl127_0, hi127_0⟩ := at_L1 HR0.out x22_2 p127 q127; cases e127; replace hx127_0 := (HB.out.cell (World.block_lt_of_cell? w _ hx127_0)).trans hx127_0; have HR127_0 := Aside0.mk hi127_0; have HC127_0 := Aside0.mk hl127_0; clear hi127_0 hl127_0; replace p127 := eq_true p127; replace q127 := eq_true q127
                 try go_wp2
                 have n0_ := Aside0.mk (Kd.S_drew HO_5.out); have n1_ := Aside0.mk (below_drew1 HB.out); clear HO_5; clear HB; have HO_5 := n0_; have HB := n1_; clear n0_ n1_; obtain ⟨Ao19, co19, eo19⟩ := Kd.S_slice HO_5.out
                 (first | subst eo19 | (injection eo19 with f1_ f2_ f3_; have f4_ := f1_.symm; have f5_ := f3_.symm; clear f1_ f2_ f3_; subst f4_; subst f5_))
                 have p128 : 0 ≤ (x15_1 : Int) := of_decide_eq_true as_; have q128 : x15_1 < (x5_2.length : Int) := of_decide_eq_true as_; obtain ⟨ad128, A128_0, c128_0, e128, hx128_0, hl128_0, hi128_0⟩ := at_L1 (Kd.S_reads' HO_5.out).2.2 x15_1 p128 q128; cases e128; obtain ⟨ce128, hce128, hMe128, hcc128⟩ := Kd.S_get HO_5.out [] x15_1 p128 (by first | exact q128 | exact of_decide_eq_true as_ | (have e_ := (Kd.S_reads' HO_5.out).1; omega)); obtain ⟨ve128_0, rfl, ge128_0⟩ := hMe128; have hv128_0 := hcc128 0 _ rfl; rw [Nat.add_zero, show ((Kd.slice 3 (Kd.int .i64))).sz = 1 from rfl, Nat.mul_one] at hv128_0; replace hv128_0 := Option.some.inj (hv128_0.symm.trans hx128_0); rw [hv128_0] at ge128_0; have HL128_0 := Aside0.mk (show Kd.R (Kd.int .i64) 3 _ _ _ _ (rd_L1 x5_2 x15_1) from ge128_0); clear hv128_0 ge128_0; have HX128_0 := Aside0.mk hx128_0; clear hcc128 hce128; have HR128_0 := Aside0.mk hi128_0; have HC128_0 := Aside0.mk hl128_0; clear hi128_0 hl128_0; replace p128 := eq_true p128; replace q128 := eq_true q128; have p129 : 0 ≤ (x15_1 : Int) := of_decide_eq_true as_; have q129 : x15_1 < ((rd_L1 l0 x22_2).length : Int) := of_decide_eq_true as_; obtain ⟨ad129, e129, hx129_0⟩ := Kd.at_int HR127_0.out x15_1 p129 q129; have hw129_0 := hx129_0; cases e129; replace hx129_0 := (HB.out.cell (World.block_lt_of_cell? w _ hx129_0)).trans hx129_0; replace p129 := eq_true p129; replace q129 := eq_true q129; obtain ⟨go20, co20, eo20, gb20, gl20, cl20, HG20⟩ := Kd.S_form HO_5.out (by have h_ : (x15_1 : Int) < ((x5_2.length : Int) : Int) := of_decide_eq_true as_; have h2_ : 0 ≤ (x15_1 : Int) := (of_decide_eq_true as_); omega)
                 (first | cases eo20 | (injection eo20 with ea_ en_ ec_; (first | subst ea_ | (injection ea_ with ea_; subst ea_)); subst ec_; clear en_))
                 have GB20 := Aside0.mk gb20; have GG20 := Aside0.mk HG20; clear gb20 gl20 HG20
                 (first | simp only [add_plain] at hx128_0 | skip)
                 obtain ⟨oki20, ce20, hcl20, hM20, hcc20, _, _, hH20⟩ := Kd.S_elem HO_5.out [] (x15_1 : Int) (of_decide_eq_true as_) (by have h_ : (x15_1 : Int) < ((x5_2.length : Int) : Int) := of_decide_eq_true as_; first | exact h_ | (have e_ := (Kd.S_reads' HO_5.out).1; omega) | simpa using h_); obtain ⟨ve20_0, rfl, ge20_0⟩ := hM20; have hv20 := hcc20 0 _ rfl; have hX20 := HX128_0.out; (try simp only [add_plain] at hX20); (try simp only [Nat.add_zero] at hv20); (try rw [show ((Kd.slice 3 (Kd.int .i64))).sz = 1 from rfl, Nat.mul_one] at hv20); replace hv20 := Option.some.inj (hv20.symm.trans hX20); subst hv20; clear hX20 hcc20 hcl20; have UU20 := Aside0.mk (show Kd.R (Kd.int .i64) 3 _ w.heap.size oki20 (.slice A128_0 (rd_L1 x5_2 x15_1).length c128_0) (rd_L1 x5_2 x15_1) from ge20_0); have HH20 := Aside0.mk hH20; have HN20 := Aside0.mk (Kd.S_reads' HO_5.out).1; clear hH20 ge20_0
                 refine start_ (n := 14) (S := fun w' => w'.cell? ⟨go20, (x15_1).toNat, none⟩ = some (.slice A128_0 (rd_L1 x5_2 x15_1).length c128_0) ∧ w'.cell? (ad129.add (x15_1).toNat) = some (.int .i64 (rd (rd_L1 l0 x22_2) x15_1))) (ds := [13]) #[false, false, false, false, false, false, false, false, false, false, false, false, false, false] (by kernel_rfl) rfl rfl ⟨hx128_0, ((HB.out.cell (World.block_lt_of_cell? w _ hw129_0)).trans hw129_0)⟩ (fun hHeld => ?_); refine with_tabW linear_turned.tab8 linear_turned.bits8 (fun HT_ HW_ => ?_)
                 generalize wr.drew = w18 at HO_5 HB GG20 HH20 HL128_0 HR128_0 HX128_0 UU20 hx128_0 hx129_0 hHeld ⊢; refine pure_ (i := 0) (N := some 26) (v := ?_) (a' := ?_) #[true, false, false, false, false, false, false, false, false, false, false, false, false, false] rfl rfl (any_of HT_.out (by kernel_rfl)) (fun _ _ _ h => h) (Or.inl ⟨by rfl, ?_⟩) ?_ ?_; rotate_left
                 ·intro w'
                  go_simp
                  with_reducible rfl
                 rotate_left
                 ·simp only [Act.put, List.setIfInBounds_toArray, List.set_cons_zero, List.set_cons_succ, i64_w, i32_w]
                  rfl
                 refine pure_ (i := 1) (N := some 27) (v := ?_) (a' := ?_) #[true, true, false, false, false, false, false, false, false, false, false, false, false, false] rfl rfl (any_of HT_.out (by kernel_rfl)) (fun _ _ _ h => h) (Or.inl ⟨by rfl, ?_⟩) ?_ ?_; rotate_left
                 ·intro w'
                  go_simp
                  with_reducible rfl
                 rotate_left
                 ·simp only [Act.put, List.setIfInBounds_toArray, List.set_cons_zero, List.set_cons_succ, i64_w, i32_w]
                  rfl
                 refine pure_ (i := 2) (N := some 28) (v := ?_) (a' := ?_) #[true, true, true, false, false, false, false, false, false, false, false, false, false, false] rfl rfl (any_of HT_.out (by kernel_rfl)) (fun _ _ _ h => h) (Or.inl ⟨by rfl, ?_⟩) ?_ ?_; rotate_left
                 ·intro w'
                  go_simp
                  with_reducible rfl
                 rotate_left
                 ·simp only [Act.put, List.setIfInBounds_toArray, List.set_cons_zero, List.set_cons_succ, i64_w, i32_w]
                  rfl
                 refine pure_ (i := 3) (N := some 29) (v := ?_) (a' := ?_) #[true, true, true, true, false, false, false, false, false, false, false, false, false, false] rfl rfl (any_of HT_.out (by kernel_rfl)) (fun _ _ _ h => h) (Or.inl ⟨by rfl, ?_⟩) ?_ ?_; rotate_left
                 ·intro w'
                  go_simp
                  with_reducible rfl
                 rotate_left
                 ·simp only [Act.put, List.setIfInBounds_toArray, List.set_cons_zero, List.set_cons_succ, i64_w, i32_w]
                  rfl
                 refine pure_ (i := 4) (N := some 30) (v := ?_) (a' := ?_) #[true, true, true, true, true, false, false, false, false, false, false, false, false, false] rfl rfl (any_of HT_.out (by kernel_rfl)) (fun _ _ _ h => h) (Or.inl ⟨by rfl, ?_⟩) ?_ ?_; rotate_left
                 ·intro w'
                  go_simp
                  with_reducible rfl
                 rotate_left
                 ·simp only [Act.put, List.setIfInBounds_toArray, List.set_cons_zero, List.set_cons_succ, i64_w, i32_w]
                  rfl
                 refine pure_ (i := 6) (N := some 32) (v := ?_) (a' := ?_) #[true, true, true, true, true, false, true, false, false, false, false, false, false, false] rfl rfl (any_of HT_.out (by kernel_rfl)) (fun _ _ _ h => h) (Or.inl ⟨by rfl, ?_⟩) ?_ ?_; rotate_left
                 ·intro w'
                  go_simp
                  with_reducible rfl
                 rotate_left
                 ·simp only [Act.put, List.setIfInBounds_toArray, List.set_cons_zero, List.set_cons_succ, i64_w, i32_w]
                  rfl
                 refine pure_ (i := 7) (N := some 33) (v := ?_) (a' := ?_) #[true, true, true, true, true, false, true, true, false, false, false, false, false, false] rfl rfl (any_of HT_.out (by kernel_rfl)) (fun _ _ _ h => h) (Or.inl ⟨by rfl, ?_⟩) ?_ ?_; rotate_left
                 ·intro w'
                  go_simp
                  with_reducible rfl
                 rotate_left
                 ·simp only [Act.put, List.setIfInBounds_toArray, List.set_cons_zero, List.set_cons_succ, i64_w, i32_w]
                  rfl
                 refine pure_ (i := 8) (N := some 34) (v := ?_) (a' := ?_) #[true, true, true, true, true, false, true, true, true, false, false, false, false, false] rfl rfl (any_of HT_.out (by kernel_rfl)) (fun _ _ _ h => h) (Or.inl ⟨by rfl, ?_⟩) ?_ ?_; rotate_left
                 ·intro w'
                  go_simp
                  with_reducible rfl
                 rotate_left
                 ·simp only [Act.put, List.setIfInBounds_toArray, List.set_cons_zero, List.set_cons_succ, i64_w, i32_w]
                  rfl
                 refine take_ (i := 5) (N := some 31) (v := ?_) (a' := ?_) #[true, true, true, true, true, true, true, true, true, false, false, false, false, false] rfl rfl (take_ofW HT_.out HW_.out (by kernel_rfl)) (fun _ _ _ h => h) (Or.inl ⟨by rfl, ?_⟩) hHeld ?_ ?_; rotate_left
                 ·rintro w' ⟨s0, s1⟩
                  go_simp
                  with_reducible rfl
                 rotate_left
                 ·simp only [Act.put, List.setIfInBounds_toArray, List.set_cons_zero, List.set_cons_succ, i64_w, i32_w]
                  rfl
                 refine take_ (i := 9) (N := some 35) (v := ?_) (a' := ?_) #[true, true, true, true, true, true, true, true, true, true, false, false, false, false] rfl rfl (take_ofW HT_.out HW_.out (by kernel_rfl)) (fun _ _ _ h => h) (Or.inl ⟨by rfl, ?_⟩) hHeld ?_ ?_; rotate_left
                 ·rintro w' ⟨s0, s1⟩
                  go_simp
                  with_reducible rfl
                 rotate_left
                 ·simp only [Act.put, List.setIfInBounds_toArray, List.set_cons_zero, List.set_cons_succ, i64_w, i32_w]
                  rfl
                 refine one_ (i := 10) (N := some 36) #[true, true, true, true, true, true, true, true, true, true, true, false, false, false] rfl rfl (one_of HT_.out (by kernel_rfl)) (by decide) (fun K hK => ?_); refine value_ (w1 := ?_) (v := ?_) (by rfl) rfl ?_ ?_; rotate_left 2
                 ·go_simp
                  constructor
                  ·rfl
                  ·rfl
                 refine hK.out _ _ ⟨(World.cell?_alloc_lt _ _ _ (World.block_lt_of_cell? _ _ (hHeld.1))).trans (hHeld.1), (World.cell?_alloc_lt _ _ _ (World.block_lt_of_cell? _ _ (((HB.out.cell (World.block_lt_of_cell? w _ hw129_0)).trans hw129_0)))).trans (((HB.out.cell (World.block_lt_of_cell? w _ hw129_0)).trans hw129_0))⟩ (fun hHeld => ?_); clear hK K; refine norm_ (a' := ?_) ?_ ?_; rotate_left
                 ·show Act.put _ (some 36) _ = _
                  simp only [Act.put, List.setIfInBounds_toArray, List.set_cons_zero, List.set_cons_succ, i64_w, i32_w]; rfl
                 refine one_ (i := 11) (N := some 37) #[true, true, true, true, true, true, true, true, true, true, true, true, false, false] rfl rfl (one_of HT_.out (by kernel_rfl)) (by decide) (fun K hK => ?_); refine Kd.R_append_step (Kd.int .i64) (w0 := w) w.heap.size (by rfl) (.tmp 31) (.tmp 36) 23 3 (.int .i64 0) 8 rfl Try.underlying23 info3 rfl (by decide) (by omega) (.slice A128_0 (rd_L1 x5_2 x15_1).length c128_0) (rd_L1 x5_2 x15_1) (rd (rd_L1 l0 x22_2) x15_1) [.int .i64 (rd (rd_L1 l0 x22_2) x15_1)] (fun k_ => oki20 k_ ∨ ((fun _ => True)) k_ ∧ w18.heap.size ≤ k_) (fun _ => False) rfl rfl ?aP (fun _ hk => hk.elim) ?aF ?aO ?aB ?aS ?aL ?_
                 (case aP => exact rfl)
                 (case aB => exact hb_)
                 (case aF => exact (fun k_ hk => .inr ⟨trivial, hk⟩))
                 (case aO => exact (by (with_reducible repeat (first | apply Kd.R_alloc | apply Kd.R_drewN | apply Kd.R_drew)); exact Kd.R_mono UU20.out (fun _ hk => .inl hk)))
                 (case aS => exact (below_size hb_))
                 (case aL => have := LMc16.out; omega)
                 intro v131 w21 ho hb hg hat
                 (first | have HS0_ := cell_grown hg (hHeld.1) (by first | (rw [add_block]; exact (fun e_ => ((HL128_0.out.1 _ e_.symm).2) rfl)) | (show some (Addr.add _ _).block ≠ _; rw [add_block]; exact (fun e_ => ((HL128_0.out.1 _ e_.symm).2) rfl)) | exact (fun e_ => ((HL128_0.out.1 _ e_.symm).2) rfl)) | have HS0_ := cell_grown hg (cell_unalloc (hHeld.1) (by first | (rw [add_block]; exact Kd.S_lt HO_5.out _ rfl) | (show (Addr.add _ _).block < _; rw [add_block]; exact Kd.S_lt HO_5.out _ rfl) | exact Kd.S_lt HO_5.out _ rfl)) (by first | (rw [add_block]; exact (fun e_ => ((HL128_0.out.1 _ e_.symm).2) rfl)) | (show some (Addr.add _ _).block ≠ _; rw [add_block]; exact (fun e_ => ((HL128_0.out.1 _ e_.symm).2) rfl)) | exact (fun e_ => ((HL128_0.out.1 _ e_.symm).2) rfl)))
                 rw [← Ny130.out] at ho; have n0_ := Aside0.mk (hb); have n1_ := Aside0.mk (Kd.H_grown (Kd.H_widen (by repeat (first | exact HH20.out | refine Kd.H_alloc ?_ _ | refine Kd.H_drewN ?_ _ | refine Kd.H_drew ?_))) hg (fun k_ e_ => .inl (UU20.out.1 k_ e_))); have n2_ := Aside0.mk (ho); clear HB; clear HH20; clear HO_5; clear UU20; clear HL128_0; have HB := n0_; have HH20 := n1_; have HO132 := n2_; clear n0_ n1_ n2_; clear ho hb hg hat; have p17 : 0 ≤ (x15_1 : Int) := of_decide_eq_true as_; have q17 : (x15_1 : Int) < ((x5_2.length : Int) : Int) := of_decide_eq_true as_; replace p17 := eq_true p17; replace q17 := eq_true q17; obtain ⟨Ao24, co24, eo24⟩ := Kd.R_slice HO132.out
                 (first | subst eo24 | (injection eo24 with f1_ f2_ f3_; have f4_ := f1_.symm; have f5_ := f3_.symm; clear f1_ f2_ f3_; subst f4_; subst f5_))
                 obtain ⟨_, _, hraw22, _, _, hcc22, _⟩ := Kd.H_raw HH20.out (of_decide_eq_true as_) (by have h_ : (x15_1 : Int) < ((x5_2.length : Int) : Int) := of_decide_eq_true as_; first | exact h_ | (have e_ := (HN20.out); omega) | simpa using h_); obtain ⟨_, hfr22⟩ := Kd.H_at HH20.out (of_decide_eq_true as_) (by have h_ : (x15_1 : Int) < ((x5_2.length : Int) : Int) := of_decide_eq_true as_; first | exact h_ | (have e_ := (HN20.out); omega) | simpa using h_); have hx22_0 := hcc22 0 _ rfl; have hf22_0 := hfr22 0; (try simp only [Nat.add_zero] at hx22_0 hf22_0); (try rw [show ((Kd.slice 3 (Kd.int .i64))).sz = 1 from rfl, Nat.mul_one] at hx22_0); (try rw [show ((Kd.slice 3 (Kd.int .i64))).sz = 1 from rfl, Nat.mul_one] at hf22_0); have HP22 := Kd.S_seg0 HH20.out (of_decide_eq_true as_) (by have h_ : (x15_1 : Int) < ((x5_2.length : Int) : Int) := of_decide_eq_true as_; first | exact h_ | (have e_ := (HN20.out); omega) | simpa using h_) (seg := [.slice Ao24 y130.length co24]) (j := 0) (show 1 ≤ 1 from by decide) (x' := y130) (Kd.M_row HO132.out) (fun _ hk => hk); (try simp only [show ((Kd.slice 3 (Kd.int .i64))).sz = 1 from rfl, Nat.mul_one, Nat.add_zero] at HP22); clear hcc22 hfr22; have HS22 := HP22.1; rw [← Ny133.out] at HS22; have HQ22 := Aside0.mk HS22; obtain ⟨_, hgg22⟩ := Kd.R_typed hraw22 go20 rfl; have GG22_ := Aside0.mk hgg22; clear HP22 HS22 hgg22; refine hK.out _ _ ⟨HS0_, ((HB.out.cell (World.block_lt_of_cell? w _ hw129_0)).trans hw129_0)⟩ (fun hHeld => ?_); clear hK K; refine norm_ (a' := ?_) ?_ ?_; rotate_left
                 ·show Act.put _ (some 37) _ = _
                  simp only [Act.put, List.setIfInBounds_toArray, List.set_cons_zero, List.set_cons_succ, i64_w, i32_w]; rfl
                 refine pure_ (i := 12) (N := some 38) (v := ?_) (a' := ?_) #[true, true, true, true, true, true, true, true, true, true, true, true, true, false] rfl rfl (any_of HT_.out (by kernel_rfl)) (fun _ _ _ h => h) (Or.inl ⟨by rfl, ?_⟩) ?_ ?_; rotate_left
                 ·intro w'
                  go_simp
                  with_reducible rfl
                 rotate_left
                 ·simp only [Act.put, List.setIfInBounds_toArray, List.set_cons_zero, List.set_cons_succ, i64_w, i32_w]
                  rfl
                 refine last_ (i := 13) (N := none) #[true, true, true, true, true, true, true, true, true, true, true, true, true, true] rfl rfl (one_of HT_.out (by kernel_rfl)) (by decide) (fun K hK => ?_); refine skip_ (w1 := ?_) (by rfl) rfl ?_ ?_; rotate_left
                 ·go_simp
                  rfl
                 refine hK.out _ _ ?_; clear hK K; refine done_ (done_of HT_.out (by kernel_rfl)) ?_
                 try go_wp2
                 go_roundg k2
                 case measure => have := HK1.out; have := HK2.out; omega
                 case rel => exact ⟨(y133), (wrap64 (x22_2 + 1)), rf_, H', ⟨by have := HK1.out; have := HK2.out; omega⟩, ⟨rs_ HQ22.out⟩, ⟨by repeat (first | (with_reducible first | exact HB.out | apply below_alloc | apply pw_below_drewN | apply below_drew1 | refine below_set ?_ GB20.out) | exact HB.out)⟩⟩
                ·rw [if_neg c16] at H
                 exact absurd H (by simp)
               ·rw [if_neg c15] at H
                exact absurd H (by simp)
              ·rw [if_neg c14] at H
               exact absurd H (by simp)
             ·rw [if_neg c13] at H
              exact absurd H (by simp)
            ·rw [if_neg c12] at H
             exact absurd H (by simp)
           ·rw [if_neg c11] at H
            exact absurd H (by simp)
          ·rw [if_neg c10] at H
           have c10b0 : decide (x22_2 < (l0.length : Int)) = false := decide_eq_false c10; clear c10
           by_cases c25 : 0 ≤ x15_1
           ·rw [if_pos c25] at H
            have c25b0 : decide (0 ≤ x15_1) = true := decide_eq_true c25; clear c25
            by_cases c26 : x15_1 < (x5_2.length : Int)
            ·rw [if_pos c26] at H
             have c26b0 : decide (x15_1 < (x5_2.length : Int)) = true := decide_eq_true c26; clear c26
             by_cases c27 : (rd_L1 x5_2 x15_1).length < 17592186044416
             ·rw [if_pos c27] at H
              have LMc27 := Aside0.mk c27; clear c27
              obtain ⟨y135, hy135⟩ : ∃ y_ : List Int, y_ = ((rd_L1 x5_2 x15_1) ++ [(rd l1 x15_1)]) := ⟨_, rfl⟩
              replace H : (linear_turned.l0 k2 l0 (x5_2.set (x15_1 : Int).toNat y135) l1 (l1.length : Int) (wrap64 (x15_1 + 1))) = some r := by first | (rw [hy135]; with_reducible exact H) | (have H2_ := (Option.bind_some _ _).symm.trans H; rw [hy135]; with_reducible exact H2_) | (have H2_ := (Option.bind_some _ _).symm.trans H; with_reducible exact H2_) | with_reducible exact H | (rw [hy135]; exact H) | exact H
              have Ny135 := Aside0.mk hy135; clear hy135
              obtain ⟨y138, hy138⟩ : ∃ y_ : List (List Int), y_ = (x5_2.set (x15_1 : Int).toNat y135) := ⟨_, rfl⟩
              replace H : (linear_turned.l0 k2 l0 y138 l1 (l1.length : Int) (wrap64 (x15_1 + 1))) = some r := by first | (rw [hy138]; with_reducible exact H) | (have H2_ := (Option.bind_some _ _).symm.trans H; rw [hy138]; with_reducible exact H2_) | (have H2_ := (Option.bind_some _ _).symm.trans H; with_reducible exact H2_) | with_reducible exact H | (rw [hy138]; exact H) | exact H
              have Ny138 := Aside0.mk hy138; clear hy138; have H' := Aside0.mk H; clear H; obtain ⟨Ao29, co29, eo29⟩ := Kd.S_slice HO_5.out; subst eo29; have p134 : 0 ≤ (x15_1 : Int) := of_decide_eq_true as_; have q134 : x15_1 < (x5_2.length : Int) := of_decide_eq_true as_; obtain ⟨ad134, A134_0, c134_0, e134, hx134_0, hl134_0, hi134_0⟩ := at_L1 (Kd.S_reads' HO_5.out).2.2 x15_1 p134 q134; cases e134; obtain ⟨ce134, hce134, hMe134, hcc134⟩ := Kd.S_get HO_5.out [] x15_1 p134 (by first | exact q134 | exact of_decide_eq_true as_ | (have e_ := (Kd.S_reads' HO_5.out).1; omega)); obtain ⟨ve134_0, rfl, ge134_0⟩ := hMe134; have hv134_0 := hcc134 0 _ rfl; rw [Nat.add_zero, show ((Kd.slice 3 (Kd.int .i64))).sz = 1 from rfl, Nat.mul_one] at hv134_0; replace hv134_0 := Option.some.inj (hv134_0.symm.trans hx134_0); rw [hv134_0] at ge134_0; have HL134_0 := Aside0.mk (show Kd.R (Kd.int .i64) 3 _ _ _ _ (rd_L1 x5_2 x15_1) from ge134_0); clear hv134_0 ge134_0; have HX134_0 := Aside0.mk hx134_0; clear hcc134 hce134; have HR134_0 := Aside0.mk hi134_0; have HC134_0 := Aside0.mk hl134_0; clear hi134_0 hl134_0; replace p134 := eq_true p134; replace q134 := eq_true q134; obtain ⟨go30, co30, eo30, gb30, gl30, cl30, HG30⟩ := Kd.S_form HO_5.out (by have h_ : (x15_1 : Int) < ((x5_2.length : Int) : Int) := of_decide_eq_true as_; have h2_ : 0 ≤ (x15_1 : Int) := (of_decide_eq_true as_); omega)
              (first | cases eo30 | (injection eo30 with ea_ en_ ec_; (first | subst ea_ | (injection ea_ with ea_; subst ea_)); subst ec_; clear en_))
              have GB30 := Aside0.mk gb30; have GG30 := Aside0.mk HG30; clear gb30 gl30 HG30
              (first | simp only [add_plain] at hx134_0 | skip)
              obtain ⟨oki30, ce30, hcl30, hM30, hcc30, _, _, hH30⟩ := Kd.S_elem HO_5.out [] (x15_1 : Int) (of_decide_eq_true as_) (by have h_ : (x15_1 : Int) < ((x5_2.length : Int) : Int) := of_decide_eq_true as_; first | exact h_ | (have e_ := (Kd.S_reads' HO_5.out).1; omega) | simpa using h_); obtain ⟨ve30_0, rfl, ge30_0⟩ := hM30; have hv30 := hcc30 0 _ rfl; have hX30 := HX134_0.out; (try simp only [add_plain] at hX30); (try simp only [Nat.add_zero] at hv30); (try rw [show ((Kd.slice 3 (Kd.int .i64))).sz = 1 from rfl, Nat.mul_one] at hv30); replace hv30 := Option.some.inj (hv30.symm.trans hX30); subst hv30; clear hX30 hcc30 hcl30; have UU30 := Aside0.mk (show Kd.R (Kd.int .i64) 3 _ w.heap.size oki30 (.slice A134_0 (rd_L1 x5_2 x15_1).length c134_0) (rd_L1 x5_2 x15_1) from ge30_0); have HH30 := Aside0.mk hH30; have HN30 := Aside0.mk (Kd.S_reads' HO_5.out).1; clear hH30 ge30_0; go_wp2_with (first | ((with_reducible refine gate_builtin (b := .append) (xs := #[.tmp 45, .tmp 47]) rfl ?_); at_builtin; refine Kd.R_append (Kd.int .i64) (w0 := w) w.heap.size rfl (.tmp 45) (.tmp 47) 23 3 (.int .i64 0) 8 rfl Try.underlying23 info3 rfl (by decide) (by omega) (.slice A134_0 (rd_L1 x5_2 x15_1).length c134_0) (rd_L1 x5_2 x15_1) (rd l1 x15_1) [.int .i64 (rd l1 x15_1)] (fun k_ => oki30 k_ ∨ ((fun _ => True)) k_ ∧ wr.heap.size ≤ k_) (fun _ => False) rfl rfl ?aP (fun _ hk => hk.elim) ?aF ?aO ?aB ?aS ?aL ?_; (case aP => exact rfl); (case aB => exact hb_); (case aF => exact (fun k_ hk => .inr ⟨trivial, hk⟩)); (case aO => exact (by (with_reducible repeat (first | apply Kd.R_alloc | apply Kd.R_drewN | apply Kd.R_drew)); exact Kd.R_mono UU30.out (fun _ hk => .inl hk))); (case aS => exact (below_size hb_)); (case aL => have := LMc27.out; omega); intro v136 w31 ho hb hg hat; rw [← Ny135.out] at ho; have n0_ := Aside0.mk (hb); have n1_ := Aside0.mk (Kd.H_grown (Kd.H_widen (by repeat (first | exact HH30.out | refine Kd.H_alloc ?_ _ | refine Kd.H_drewN ?_ _ | refine Kd.H_drew ?_))) hg (fun k_ e_ => .inl (UU30.out.1 k_ e_))); have n2_ := Aside0.mk (ho); clear HB; clear HH30; clear HO_5; clear UU30; clear HL134_0; have HB := n0_; have HH30 := n1_; have HO137 := n2_; clear n0_ n1_ n2_; clear ho hb hg hat; have p28 : 0 ≤ (x15_1 : Int) := of_decide_eq_true as_; have q28 : (x15_1 : Int) < ((x5_2.length : Int) : Int) := of_decide_eq_true as_; replace p28 := eq_true p28; replace q28 := eq_true q28; obtain ⟨Ao34, co34, eo34⟩ := Kd.R_slice HO137.out; subst eo34; obtain ⟨_, _, hraw32, _, _, hcc32, _⟩ := Kd.H_raw HH30.out (of_decide_eq_true as_) (by have h_ : (x15_1 : Int) < ((x5_2.length : Int) : Int) := of_decide_eq_true as_; first | exact h_ | (have e_ := (HN30.out); omega) | simpa using h_); obtain ⟨_, hfr32⟩ := Kd.H_at HH30.out (of_decide_eq_true as_) (by have h_ : (x15_1 : Int) < ((x5_2.length : Int) : Int) := of_decide_eq_true as_; first | exact h_ | (have e_ := (HN30.out); omega) | simpa using h_); have hx32_0 := hcc32 0 _ rfl; have hf32_0 := hfr32 0; (try simp only [Nat.add_zero] at hx32_0 hf32_0); (try rw [show ((Kd.slice 3 (Kd.int .i64))).sz = 1 from rfl, Nat.mul_one] at hx32_0); (try rw [show ((Kd.slice 3 (Kd.int .i64))).sz = 1 from rfl, Nat.mul_one] at hf32_0); have HP32 := Kd.S_seg0 HH30.out (of_decide_eq_true as_) (by have h_ : (x15_1 : Int) < ((x5_2.length : Int) : Int) := of_decide_eq_true as_; first | exact h_ | (have e_ := (HN30.out); omega) | simpa using h_) (seg := [.slice Ao34 y135.length co34]) (j := 0) (show 1 ≤ 1 from by decide) (x' := y135) (Kd.M_row HO137.out) (fun _ hk => hk); (try simp only [show ((Kd.slice 3 (Kd.int .i64))).sz = 1 from rfl, Nat.mul_one, Nat.add_zero] at HP32); clear hcc32 hfr32) | ((with_reducible refine gate_store (t := 23) (p := 49) rfl ?_); refine store_event (t := 23) (p := 49) (v := ?vo_w33) (w1 := (w31.setCell ⟨go30, (x15_1 : Int).toNat, none⟩ (.slice Ao34 y135.length co34))) ?hg ?ho ?hn ?hr ?_; (case ho => rfl); (case hg => rfl); (case hn => rfl); (case hr => first | (go_simp; done) | (go_simp; rfl)); intro w33 hw; have hg : w31.grownBy w33 (some go30) := (by rw [hw]; exact HP32.2); have hp_ : Kd.S (Kd.slice 3 (Kd.int .i64)) 23 w33 w.heap.size (fun _ => True) (.slice (some ⟨go30, 0, none⟩) x5_2.length co29) y138 := (by rw [hw, Ny138.out]; exact HP32.1); clear HP32; have n0_ := Aside0.mk ((by rw [hw]; exact below_set HB.out GB30.out : Below w.heap.size w w33)); have n1_ := Aside0.mk (hp_); clear HB; clear HO137; clear HH30; have HB := n0_; have HO_5 := n1_; clear n0_ n1_; clear hg hw hp_ hraw32))
              go_roundg k2
              case measure => have := HK1.out; have := HK2.out; omega
              case rel => exact ⟨(y138), (wrap64 (x15_1 + 1)), rf_, H', ⟨by have := HK1.out; have := HK2.out; omega⟩, ⟨rs_ HO_5.out⟩, ⟨hb_⟩⟩
             ·rw [if_neg c27] at H
              exact absurd H (by simp)
            ·rw [if_neg c26] at H
             exact absurd H (by simp)
           ·rw [if_neg c25] at H
            exact absurd H (by simp)
       ·rw [if_neg c9] at H
        exact absurd H (by simp)
      ·rw [if_neg c8] at H
       exact absurd H (by simp)
     ·rw [if_neg c7] at H
      have c7b0 : decide (x15_1 < (l1.length : Int)) = false := decide_eq_false c7; clear c7; obtain rfl := Option.some.inj H; go_wp2
      go_ret
      exact ⟨_, by first | rfl | (simp [errW_none, errW_some] <;> rfl) | (simp [*, errW_none, errW_some] <;> rfl), rs_ HO_5.out, by repeat (first | (with_reducible first | exact HB.out | apply below_alloc | apply pw_below_drewN | apply below_drew1) | exact HB.out)⟩
  ·rw [if_neg c4] at H
   exact absurd H (by simp)
 ·rw [if_neg c3] at H
  exact absurd H (by simp)
end Go.Proofs.Ytdbamhckgaoibaa.P
namespace Go.Proofs.Ytdbamhckgaoibaa.P
open Go.RowKit Go.Proofs.YtdbamhckgaoibaaW.PrintWords Go.Proofs.YtdbamhckgaoibaaW.PrintLast Go.Proofs.YtdbamhckgaoibaaW.PrintMore
theorem rd_L1_nat (l : List (List Int)) (j : Nat) : rd_L1 l (j : Int) = l.getD j [] := by unfold rd_L1; rw [Int.toNat_natCast]
theorem rd_nat (l : List Int) (j : Nat) : rd l (j : Int) = l.getD j 0 := by unfold rd; rw [Int.toNat_natCast]
theorem wrap_succ {j : Nat} (h : j < 1000000) : wrap64 ((j : Int) + 1) = ((j + 1 : Nat) : Int) := by unfold wrap64; omega
theorem set_set_row (t : List (List Int)) (i : Nat) (a b : List Int) : (t.set i a).set i b = t.set i b := by simp
theorem turned_l1 (rows : List (List Int)) (target : List Int) (i : Nat) (n T i' : Int) (k : Nat) (hlen : rows.length < 1000000) (hrows : ∀ j, j < rows.length → i < (rows.getD j []).length) :
    ∀ (d j : Nat) (t : List (List Int)), rows.length - j = d → j ≤ rows.length → i < t.length → (t.getD i []).length + d < 1000000 →
      linear_turned.l1 (k + d + 1) rows t (i : Int) n target T i' rows (rows.length : Int) (j : Int) = linear_turned.l0 k rows (t.set i (t.getD i [] ++ (rows.drop j).map (fun r => r.getD i 0) ++ [n])) target T (wrap64 (i' + 1)) := by
  intro d
  induction d with
  | zero =>
    intro j t hd hj hi hs
    obtain rfl : j = rows.length := by omega
    rw [linear_turned.l1, if_neg (by omega), if_pos (by omega), if_pos (by omega), rd_L1_nat, if_pos (by omega), List.drop_length, Int.toNat_natCast]
    simp
  | succ d ih =>
    intro j t hd hj hi hs; have hjr := hrows j (by omega); rw [linear_turned.l1, if_pos (by omega), if_pos (by omega), if_pos (by omega), if_pos (by omega), if_pos (by omega), rd_L1_nat, rd_L1_nat, if_pos (by omega), if_pos (by omega), rd_nat, Int.toNat_natCast, wrap_succ (by omega)]
    rw [show k + (d + 1) = k + d + 1 from by omega, ih (j + 1) _ (by omega) (by omega) (by simpa using hi) (by
      rw [Sig.getD_set, if_pos ⟨rfl, hi⟩, List.length_append, List.length_singleton]; omega)]
    rw [Sig.getD_set, if_pos ⟨rfl, hi⟩, set_set_row, List.drop_eq_getElem_cons (show j < rows.length by omega), List.map_cons]
    have e : rows.getD j [] = rows[j] := by rw [List.getD_eq_getElem?_getD, List.getElem?_eq_getElem (by omega)]; rfl
    rw [e]
    simp
def tt (rows : List (List Int)) (target : List Int) (i : Nat) : List (List Int) := (Sig.turned rows target).take i ++ List.replicate (target.length - i) []
theorem tt_step {rows : List (List Int)} {target : List Int} {i : Nat} (hi : i < target.length) : (tt rows target i).set i ((tt rows target i).getD i [] ++ rows.map (fun r => r.getD i 0) ++ [target.getD i 0]) = tt rows target (i + 1) := by
  have hl : ((Sig.turned rows target).take i).length = i := by rw [List.length_take, Sig.turned_length]; omega
  have h0 : (tt rows target i).getD i [] = [] := by
    unfold tt
    rw [List.getD_eq_getElem?_getD, List.getElem?_append_right (by omega), hl, Nat.sub_self, List.getElem?_replicate, if_pos (by omega)]; rfl
  rw [h0, List.nil_append]; unfold tt; rw [List.set_append_right _ _ (by omega), hl, Nat.sub_self, show target.length - i = (target.length - (i + 1)) + 1 from by omega, List.replicate_succ, List.set_cons_zero]; rw [List.take_succ_eq_append_getElem (by rw [Sig.turned_length]; exact hi), List.append_assoc]
  congr 1
  simp [Sig.turned]
theorem turned_l0 (rows : List (List Int)) (target : List Int) (hl1 : rows.length < 100000) (hl2 : target.length < 100000) (hrows : ∀ row ∈ rows, row.length = target.length) :
    ∀ (d i : Nat), target.length - i = d → i ≤ target.length → linear_turned.l0 (d * (rows.length + 2) + 1) rows (tt rows target i) target (target.length : Int) (i : Int) = some (Sig.turned rows target) := by
  intro d
  induction d with
  | zero =>
    intro i hd hi
    obtain rfl : i = target.length := by omega
    rw [Nat.zero_mul, linear_turned.l0, if_neg (by omega)]; unfold tt; rw [Nat.sub_self, List.replicate_zero, List.append_nil, List.take_of_length_le (by rw [Sig.turned_length]; omega)]
  | succ d ih =>
    intro i hd hi
    have hil : i < (tt rows target i).length := by unfold tt; rw [List.length_append, List.length_take, Sig.turned_length, List.length_replicate]; omega
    have h0 : ((tt rows target i).getD i []).length = 0 := by
      unfold tt
      rw [List.getD_eq_getElem?_getD, List.getElem?_append_right (by rw [List.length_take, Sig.turned_length]; omega), List.length_take, Sig.turned_length, show i - min i target.length = 0 from by omega, List.getElem?_replicate, if_pos (by omega)]; rfl
    rw [linear_turned.l0, if_pos (by omega), if_pos (by omega), if_pos (by omega), rd_nat]
    have e : (d + 1) * (rows.length + 2) = (d * (rows.length + 2) + 1) + rows.length + 1 := by rw [Nat.succ_mul]; omega
    have := turned_l1 rows target i (target.getD i 0) (target.length : Int) (i : Int) (d * (rows.length + 2) + 1) (by omega) (fun j hj => by
      rw [hrows _ (Sig.getD_mem hj)]; omega) rows.length 0 (tt rows target i) (by omega) (by omega) hil (by omega)
    rw [e]; refine (this.trans ?_); rw [List.drop_zero, tt_step (by omega), wrap_succ (by omega)]; exact ih (i + 1) (by omega) (by omega)
theorem turned_math {rows : List (List Int)} {target : List Int} (hl1 : rows.length < 100000) (hl2 : target.length < 100000) (hrows : ∀ row ∈ rows, row.length = target.length) :
    linear_turned.f (target.length * (rows.length + 2) + 1) rows target = some (Sig.turned rows target) := by
  unfold linear_turned.f; rw [if_pos (by omega), if_pos (by omega)]; have := turned_l0 rows target hl1 hl2 hrows target.length 0 (by omega) (by omega); unfold tt at this; rw [List.take_zero, List.nil_append, Nat.sub_zero] at this; rw [Int.toNat_natCast]; exact this
end Go.Proofs.Ytdbamhckgaoibaa.P
namespace Go.Proofs.Ytdbamhckgaoibaa.P
open Go.RowKit Go.Proofs.YtdbamhckgaoibaaW.PrintWords Go.Proofs.YtdbamhckgaoibaaW.PrintLast Go.Proofs.YtdbamhckgaoibaaW.PrintMore
theorem mod09 (a : Int) : signatoryref09_Mod.f a = some (a % 1073741789) := by
  unfold signatoryref09_Mod.f; have h := Int.tmod_eq_emod (a := a) (b := 1073741789)
  by_cases ha : 0 ≤ a
  · rw [Int.tmod_eq_emod_of_nonneg ha, if_neg (by omega)]
  · by_cases hm : a % 1073741789 = 0
    · have : Int.tmod a 1073741789 = 0 := by
        have hd : (1073741789 : Int) ∣ a := Int.dvd_of_emod_eq_zero hm; exact Int.tmod_eq_zero_of_dvd hd
      rw [this, if_neg (by omega), hm]
    · have e : Int.tmod a 1073741789 = a % 1073741789 - 1073741789 := by
        rw [h, if_neg (fun q => by rcases q with q | q; exact ha q; exact hm (Int.emod_eq_zero_of_dvd q))]; rfl
      rw [e, if_pos (by omega), show a % 1073741789 - 1073741789 + 1073741789 = a % 1073741789 by omega]
      congr 1
      unfold wrap64; omega
theorem add09 (a b : Int) : signatoryref09_Add.f a b = some ((a + b) % 1073741789) := by
  unfold signatoryref09_Add.f; rw [mod09, Option.bind_some, mod09, Option.bind_some, wrap_small (by omega) (by omega), Int.tmod_eq_emod_of_nonneg (by omega)]
  congr 1
  omega
theorem mulQ_range (a b : Int) : 0 ≤ (a % 1073741789) * (b % 1073741789) ∧ (a % 1073741789) * (b % 1073741789) ≤ 1152921504606846976 := by
  have h1 := Sig.emod_range a; have h2 := Sig.emod_range b; refine ⟨Int.mul_nonneg h1.1 h2.1, ?_⟩; exact Int.le_trans (Int.mul_le_mul (show a % 1073741789 ≤ 1073741788 by omega) (show b % 1073741789 ≤ 1073741788 by omega) h2.1 (by omega)) (by omega)
theorem mul09 (a b : Int) : signatoryref09_Mul.f a b = some (a * b % 1073741789) := by
  unfold signatoryref09_Mul.f; have := mulQ_range a b; rw [mod09, Option.bind_some, mod09, Option.bind_some, wrap_small this.1 (by omega), Int.tmod_eq_emod_of_nonneg this.1, ← Int.mul_emod]
theorem pow09_l0 : ∀ (m n : Nat) (a c : Int) (k : Nat), n < 2 ^ m → n < 2147483579 → signatoryref09_power.l0 (k + m + 1) a (n : Int) (c % 1073741789) = some (c * a ^ n % 1073741789) := by
  intro m
  induction m with
  | zero =>
    intro n a c k hn _
    obtain rfl : n = 0 := by omega
    rw [signatoryref09_power.l0, if_neg (by omega), Int.pow_zero, Int.mul_one]
  | succ m ih =>
    intro n a c k hn hb; rw [signatoryref09_power.l0]
    by_cases hz : n = 0
    · subst hz
      rw [if_neg (by omega), Int.pow_zero, Int.mul_one]
    · rw [if_pos (by omega)]
      have e1 : Int.tmod (n : Int) 2 = ((n % 2 : Nat) : Int) := by rw [Int.tmod_eq_emod_of_nonneg (by omega)]; omega
      have e2 : wrap64 (Int.tdiv (n : Int) 2) = ((n / 2 : Nat) : Int) := by
        rw [Int.tdiv_eq_ediv_of_nonneg (by omega)]; unfold wrap64; omega
      rw [e1, e2, mul09, mul09]
      have hp : 2 ^ (m + 1) = 2 * 2 ^ m := by rw [Nat.pow_succ, Nat.mul_comm]
      have hq : n / 2 < 2 ^ m := by omega
      have key : ∀ (c : Int) (q : Nat), c * (a * a % 1073741789) ^ q % 1073741789 = c * a ^ (2 * q) % 1073741789 := fun c q => by
        rw [Int.mul_emod, Sig.pow_emod, ← Int.mul_emod, sq_pow]
      by_cases ho : n % 2 = 1
      · rw [if_pos (by omega), Option.bind_some, Option.bind_some, ← Nat.add_assoc, show c % 1073741789 * a % 1073741789 = c * a % 1073741789 by rw [Sig.mul_emod_l], ih (n / 2) _ _ k hq (by omega), key, Int.mul_assoc, Int.mul_comm a, ← Int.pow_succ, show (2 * (n / 2)).succ = n by omega]
      · rw [if_neg (by omega), Option.bind_some, ← Nat.add_assoc, ih (n / 2) _ _ k hq (by omega), key, show 2 * (n / 2) = n by omega]
theorem less13_l0 (a b : List Int) (n : Int) (hl : a.length ≤ b.length) (hs : a.length < 1000000) (k : Nat) : ∀ (d j : Nat) (out : List Int), a.length - j = d → j ≤ a.length → out.length = a.length → out.take j = (Sig.less a b n).take j →
    signatoryref13_less.l0 (k + d + 1) a b n out (j : Int) = some (Sig.less a b n) := by
  have hll : (Sig.less a b n).length = a.length := by unfold Sig.less; rw [List.length_zipWith]; omega
  intro d
  induction d with
  | zero =>
    intro j out hd hj ho ht
    obtain rfl : j = a.length := by omega
    rw [signatoryref13_less.l0, if_neg (by omega)]; rw [List.take_of_length_le (by omega), List.take_of_length_le (by omega)] at ht; rw [ht]
  | succ d ih =>
    intro j out hd hj ho ht
    have ha : a.getD j 0 = a[j] := by rw [List.getD_eq_getElem?_getD, List.getElem?_eq_getElem (by omega)]; rfl
    have hb : b.getD j 0 = b[j] := by rw [List.getD_eq_getElem?_getD, List.getElem?_eq_getElem (by omega)]; rfl
    have hr := Sig.emod_range (n * b[j]); rw [signatoryref13_less.l0, if_pos (by omega), if_pos (by omega), if_pos (by omega), rd_nat, rd_nat, mul09, Option.bind_some, add09, Option.bind_some, if_pos (by omega), wrap_succ (by omega), ← Nat.add_assoc, Int.toNat_natCast, ha, hb]; refine ih (j + 1) _ (by omega) (by omega) (by rw [List.length_set, ho]) ?_
    have e : (a[j] + wrap64 (-(n * b[j] % 1073741789))) % 1073741789 = (Sig.less a b n)[j]'(by omega) := by
      unfold Sig.less; rw [List.getElem_zipWith, show wrap64 (-(n * b[j] % 1073741789)) = -(n * b[j] % 1073741789) by unfold wrap64; omega]; omega
    rw [e, List.take_succ_eq_append_getElem (by rw [List.length_set]; omega), List.take_succ_eq_append_getElem (by omega), List.getElem_set_self, List.take_set_of_le (Nat.le_refl _), ht]
theorem less13_math (a b : List Int) (n : Int) (hl : a.length ≤ b.length) (hs : a.length ≤ 1000) (k : Nat) (hk : 2000 ≤ k) : signatoryref13_less.f k a b n = some (Sig.less a b n) := by
  unfold signatoryref13_less.f
  obtain ⟨k, rfl⟩ : ∃ k', k = k' + a.length + 1 := ⟨k - a.length - 1, by omega⟩
  rw [if_pos (by omega), if_pos (by omega), Int.toNat_natCast]; exact less13_l0 a b n hl (by omega) k a.length 0 _ (by omega) (by omega) (by simp) rfl
theorem times13_math (a : List Int) (n : Int) (h0 : 0 ≤ n) (h1 : n < 1073741789) (hs : a.length ≤ 1000) (k : Nat) (hk : 2000 ≤ k) : signatoryref13_times.f k a n = some (Sig.times a n) := by
  unfold signatoryref13_times.f; rw [if_pos (by omega), if_pos (by omega), Int.toNat_natCast, less13_math _ _ _ (by simp) (by simp; omega) k hk, Option.bind_some, show wrap64 (-n) = -n by unfold wrap64; omega]
  congr 1
  unfold Sig.less Sig.times; refine List.ext_getElem (by simp) (fun i h1 h2 => ?_); rw [List.getElem_zipWith, List.getElem_map, List.getElem_replicate, Int.zero_sub, Int.neg_mul, Int.neg_neg, Int.mul_comm]
end Go.Proofs.Ytdbamhckgaoibaa.P
namespace Go.Proofs.Ytdbamhckgaoibaa.P
open Go.RowKit Go.Proofs.YtdbamhckgaoibaaW.PrintWords Go.Proofs.YtdbamhckgaoibaaW.PrintLast Go.Proofs.YtdbamhckgaoibaaW.PrintMore
attribute [local go_sem] max2_int min2_int max_two min_two max_three min_three max_four min_four
set_option linter.unusedVariables false
set_option linter.unusedSimpArgs false
mutual
def signatoryref13_Reduced.l0 : Nat → Int → List (List Int) → List Int → Int → Option ((List (List Int)) × List Int)
 | 0, _, _, _, _ => none
 | k + 1, x1, x6, x7, x8 => if x8 < x1 then (signatoryref13_Reduced.l1 k x1 x6 x7 x8 (x7.length : Int) (x7.length : Int)) else (some (x6, x7))
def signatoryref13_Reduced.j2 : Nat → Int → List (List Int) → List Int → Int → Int → Int → Option ((List (List Int)) × List Int)
 | 0, _, _, _, _, _, _ => none
 | k + 1, x1, x6, x7, x8, x9, x10 => if x10 ≥ (x6.length : Int) then (signatoryref13_Reduced.l0 k x1 x6 x7 (wrap64 (x8 + 1))) else (if 0 ≤ x10 then (if x10 < (x6.length : Int) then (if 0 ≤ x9 then (if x9 < (x6.length : Int) then (if 0 ≤ x8 then (if x8 < ((rd_L1 x6 x10).length : Int) then ((signatoryref09_Inverse.f k (rd (rd_L1 x6 x10) x8)).bind fun bt246 => ((signatoryref13_times.f k (rd_L1 x6 x10) bt246.1).bind fun t248 => (signatoryref13_Reduced.l2 k x1 (x6.set (x10 : Int).toNat (rd_L1 x6 x9)) x7 x8 x9 t248 0))) else (none)) else (none)) else (none)) else (none)) else (none)) else (none))
def signatoryref13_Reduced.l2 : Nat → Int → List (List Int) → List Int → Int → Int → List Int → Int → Option ((List (List Int)) × List Int)
 | 0, _, _, _, _, _, _, _ => none
 | k + 1, x1, x6, x7, x8, x9, x11, x14 => if x14 < (x6.length : Int) then (if 0 ≤ x14 then (if 0 ≤ x8 then (if x8 < ((rd_L1 x6 x14).length : Int) then ((signatoryref13_less.f k (rd_L1 x6 x14) x11 (rd (rd_L1 x6 x14) x8)).bind fun t254 => (signatoryref13_Reduced.l2 k x1 (x6.set (x14 : Int).toNat t254) x7 x8 x9 x11 (wrap64 (x14 + 1)))) else (none)) else (none)) else (none)) else (if 0 ≤ x9 then (if x9 < (x6.length : Int) then (if x7.length < 17592186044416 then (signatoryref13_Reduced.l0 k x1 (x6.set (x9 : Int).toNat x11) (x7 ++ [x8]) (wrap64 (x8 + 1))) else (none)) else (none)) else (none))
def signatoryref13_Reduced.l1 : Nat → Int → List (List Int) → List Int → Int → Int → Int → Option ((List (List Int)) × List Int)
 | 0, _, _, _, _, _, _ => none
 | k + 1, x1, x6, x7, x8, x9, x10 => if x10 < (x6.length : Int) then (if 0 ≤ x10 then (if 0 ≤ x8 then (if x8 < ((rd_L1 x6 x10).length : Int) then (if (rd (rd_L1 x6 x10) x8) = 0 then (signatoryref13_Reduced.l1 k x1 x6 x7 x8 x9 (wrap64 (x10 + 1))) else (signatoryref13_Reduced.j2 k x1 x6 x7 x8 x9 x10)) else (none)) else (none)) else (none)) else (signatoryref13_Reduced.j2 k x1 x6 x7 x8 x9 x10)
end
def signatoryref13_Reduced.f (k : Nat) (l0 : List (List Int)) (a1 : Int) : Option ((List (List Int)) × List Int) := (some (([] : List (List Int)) : List (List Int))).bind fun y231 => (if y231.length + l0.length < 5864062014805 then (signatoryref13_Reduced.l0 k a1 (y231 ++ l0) (([] : List Int)) 0) else (none))
def signatoryref13_Reduced.T18 : Bool × List (List Nat × List Nat) := (true, [([], []), ([], []), ([], []), ([], []), ([2, 3], [2, 3]), ([4], [4]), ([], []), ([], []), ([], []), ([7, 8], [7, 8]), ([9], [9]), ([], []), ([10, 11], [10, 11]), ([12], [12]), ([5, 6, 13], [5, 6, 13]), ([0, 1, 0, 1, 2, 3, 4, 5, 6, 7, 8, 9, 10, 11, 12, 13, 14], [0, 1]), ([15, 14, 14, 0, 1, 2, 3, 4, 5, 6, 7, 8, 9, 10, 11, 12, 13, 14], [14, 15])])
def signatoryref13_Reduced.B18 : List Nat := [0, 0, 0, 0, 12, 28, 0, 0, 0, 384, 896, 0, 3968, 8064, 16380, 32767, 65535]
theorem signatoryref13_Reduced.tab18 : rtab .any (opsOf Try.f174 18) = signatoryref13_Reduced.T18 := by kernel_rfl
theorem signatoryref13_Reduced.bits18 : waitsOk signatoryref13_Reduced.T18.2 signatoryref13_Reduced.B18 = true := by kernel_rfl
set_option maxHeartbeats 8000000 in
set_option maxRecDepth 100000 in
theorem signatoryref13_Reduced.calls (k : Nat) (P0_ : Nat → Prop) (A0 : Option Addr) (c0 : Nat) (l0 : List (List Int)) (a1 : Int) (r1 : List (List Int)) (r2 : List Int) (w : World) (hs0 : Kd.V (Kd.slice 3 (Kd.int .i64)) 23 w w.heap.size (fun k_ => P0_ k_) (.slice A0 l0.length c0) l0) (h : signatoryref13_Reduced.f k l0 a1 = some (r1, r2)) :
  Calls Try.prog 174 #[.slice A0 l0.length c0, .int .i64 a1] w fun e w' => ∃ v0_ v1_ : Value, e = .returned (.tuple #[v0_, v1_]) ∧ Kd.N (Kd.slice 3 (Kd.int .i64)) 23 w' w.heap.size (fun k_ => (P0_ k_ ∨ w.heap.size ≤ k_) ∧ some k_ ≠ (v1_ : Value).ownBlock) v0_ r1 ∧ Kd.R (Kd.int .i64) 3 w' w.heap.size (fun k_ => (w.heap.size ≤ k_)) v1_ r2 ∧ Below w.heap.size w w' := by
 have HO0 := Aside0.mk (show Kd.V (Kd.slice 3 (Kd.int .i64)) 23 w w.heap.size (fun k_ => (P0_ k_ ∨ w.heap.size ≤ k_)) (.slice A0 l0.length c0) l0 from Kd.V_mono hs0 (fun k_ hk => .inl hk)); have HB := Aside0.mk (Below.refl w.heap.size w); have H : ((some (([] : List (List Int)) : List (List Int))).bind fun y231 => (if y231.length + l0.length < 5864062014805 then (signatoryref13_Reduced.l0 k a1 (y231 ++ l0) (([] : List Int)) 0) else (none))) = some (r1, r2) := h; clear h
 obtain ⟨y231, hy231⟩ : ∃ y_ : List (List Int), y_ = (([] : List (List Int))) := ⟨_, rfl⟩
 replace H : (if y231.length + l0.length < 5864062014805 then (signatoryref13_Reduced.l0 k a1 (y231 ++ l0) (([] : List Int)) 0) else (none)) = some (r1, r2) := by first | (rw [hy231]; with_reducible exact H) | (have H2_ := (Option.bind_some _ _).symm.trans H; rw [hy231]; with_reducible exact H2_) | (have H2_ := (Option.bind_some _ _).symm.trans H; with_reducible exact H2_) | with_reducible exact H | (rw [hy231]; exact H) | exact H
 have Ny231 := Aside0.mk hy231; clear hy231
 by_cases c3 : y231.length + l0.length < 5864062014805
 ·rw [if_pos c3] at H
  have LMc3 := Aside0.mk c3; clear c3
  obtain ⟨y234, hy234⟩ : ∃ y_ : List (List Int), y_ = (y231 ++ l0) := ⟨_, rfl⟩
  replace H : (signatoryref13_Reduced.l0 k a1 y234 (([] : List Int)) 0) = some (r1, r2) := by first | (rw [hy234]; with_reducible exact H) | (have H2_ := (Option.bind_some _ _).symm.trans H; rw [hy234]; with_reducible exact H2_) | (have H2_ := (Option.bind_some _ _).symm.trans H; with_reducible exact H2_) | with_reducible exact H | (rw [hy234]; exact H) | exact H
  have Ny234 := Aside0.mk hy234; clear hy234
  obtain ⟨y237, hy237⟩ : ∃ y_ : List Int, y_ = (([] : List Int)) := ⟨_, rfl⟩
  replace H : (signatoryref13_Reduced.l0 k a1 y234 y237 0) = some (r1, r2) := by first | (rw [hy237]; with_reducible exact H) | (have H2_ := (Option.bind_some _ _).symm.trans H; rw [hy237]; with_reducible exact H2_) | (have H2_ := (Option.bind_some _ _).symm.trans H; with_reducible exact H2_) | with_reducible exact H | (rw [hy237]; exact H) | exact H
  have Ny237 := Aside0.mk hy237; clear hy237; have H' := Aside0.mk H; clear H
  go_enter Try.func174, Try.ntmps174
  go_wp2_with (first | ((with_reducible refine gate_dst (N := 15) rfl ?_); refine Kd.N_lit (Kd.slice 3 (Kd.int .i64)) _ 23 ?hg (N' := 15) ?hd (xs := ([] : List (List Int))) (inner := []) (ok := (fun k_ => (P0_ k_ ∨ w.heap.size ≤ k_))) (okp := (fun k_ => (P0_ k_ ∨ w.heap.size ≤ k_))) ?hr ?hp (fun _ hk => hk) ((show ∀ k_, w.heap.size ≤ k_ → (fun k_ => (P0_ k_ ∨ w.heap.size ≤ k_)) k_ from fun k_ hk => (.inr (Nat.le_trans (below_size hb_) hk))) _ (Nat.le_refl _)) (Below.refl _ _) (Nat.le_refl _) (by simp) ?_; (case hd => rfl); (case hg => rfl); (case hr => first | (go_simp; done) | (go_simp; rfl)); (case hp => exact (Reps.none _ _)); intro v232 w4 ho5 hb hg_ hnew_; clear hg_ hnew_; (first | rw [← Ny231.out] at ho5 | (simp only [Int.reduceToNat] at ho5; rw [← Ny231.out] at ho5)); have n0_ := Aside0.mk (Kd.V_elder' (rv_ HO0.out) (Kd.N_base ho5) hb); have n1_ := Aside0.mk (Kd.N_lower ho5 (below_size hb_)); have n2_ := Aside0.mk (below_step hb_ hb); clear HO0; clear HB; have HO0 := n0_; have HO233 := n1_; have HB := n2_; clear n0_ n1_ n2_; clear hb ho5) | ((with_reducible refine gate_builtin (b := .append) (xs := #[.tmp 15, .tmp 16]) rfl ?_); at_builtin; refine Kd.N_append_rows (Kd.slice 3 (Kd.int .i64)) (w0 := w) w.heap.size rfl (.tmp 15) (.tmp 16) 22 23 (.slice none 0 0) 24 rfl Try.underlying22 info23 rfl (by decide) (by omega) v232 y231 l0 _ _ _ (fun k_ => (P0_ k_ ∨ w.heap.size ≤ k_)) (fun k_ => ((fun k_ => (P0_ k_ ∨ w.heap.size ≤ k_))) k_ ∧ some k_ ≠ (v232 : Value).ownBlock) rfl rfl ?aO ?aR (fun _ hk => hk) ?aF ?aB ?aS ?aL ?_; (case aR => exact (by skip; exact Kd.V_F (Kd.V_mono (ok' := (fun k_ => ((fun k_ => (P0_ k_ ∨ w.heap.size ≤ k_))) k_ ∧ some k_ ≠ (v232 : Value).ownBlock)) (HO0.out) (fun k_ hk => ⟨hk.1, hk.2⟩)))); (case aB => exact hb_); (case aF => exact (fun k_ hk => (.inr (Nat.le_trans (below_size hb_) hk)))); (case aO => exact (rn_ HO233.out)); (case aS => exact (below_size hb_)); (case aL => have := LMc3.out; omega); intro v235 w6 ho hb hg hat; rw [← Ny234.out] at ho; have n0_ := Aside0.mk (Kd.V_afterv (ok := (fun k_ => (P0_ k_ ∨ w.heap.size ≤ k_))) (rv_ HO0.out) hg hat); have n1_ := Aside0.mk (hb); have n2_ := Aside0.mk (ho); clear HO0; clear HB; clear HO233; have HO0 := n0_; have HB := n1_; have HO236 := n2_; clear n0_ n1_ n2_; clear ho hb hg hat) | ((with_reducible refine gate_dst (N := 18) rfl ?_); refine Kd.R_lit (Kd.int .i64) _ 3 ?hg (N := 18) ?hd (xs := ([] : List Int)) (inner := []) (ok := fun _ => True) (okp := fun _ => True) ?hr ?hp (fun _ hk => hk) trivial (Below.refl _ _) (Nat.le_refl _) (by simp) ?_; (case hd => rfl); (case hg => rfl); (case hr => first | (go_simp; done) | (go_simp; rfl)); (case hp => exact (Reps.none _ _)); intro v238 w7 ho8 hb hg_ hnew_; clear hg_ hnew_; (first | rw [← Ny237.out] at ho8 | (simp only [Int.reduceToNat] at ho8; rw [← Ny237.out] at ho8)); have n0_ := Aside0.mk (Kd.V_elder' (rv_ HO0.out) (Kd.R_base ho8) hb); have n1_ := Aside0.mk (Kd.N_elder' (rn_ HO236.out) (Kd.R_base ho8) hb); have n2_ := Aside0.mk (Kd.R_lower (Kd.R_newM (M := fun k_ => (w.heap.size ≤ k_)) ho8 (below_size hb_) (fun k_ h_ => h_)) (below_size hb_)); have n3_ := Aside0.mk (below_step hb_ hb); clear HO0; clear HO236; clear HB; have HO0 := n0_; have HO236 := n1_; have HO239 := n2_; have HB := n3_; clear n0_ n1_ n2_ n3_; clear hb ho8))
  go_loopg [7, 8] k (fun kq v7 v8 w' => ∃ (x6_1 : List (List Int)) (x7_1 : List Int) (x8_1 : Int), v8 = .int .i64 x8_1 ∧ Aside0 (signatoryref13_Reduced.l0 kq a1 x6_1 x7_1 x8_1 = some (r1, r2)) ∧ Aside0 (kq ≤ k) ∧ Aside0 (Kd.N (Kd.slice 3 (Kd.int .i64)) 23 w' w.heap.size (fun k_ => (P0_ k_ ∨ w.heap.size ≤ k_) ∧ some k_ ≠ (v7 : Value).ownBlock) v235 x6_1) ∧ Aside0 (Kd.R (Kd.int .i64) 3 w' w.heap.size (fun k_ => (w.heap.size ≤ k_)) v7 x7_1) ∧ Aside0 (Below w.heap.size w w'))
  case atStart => exact ⟨(y234), (y237), (0), rf_, H', ⟨Nat.le_refl _⟩, ⟨rn_ HO236.out⟩, ⟨by (with_reducible repeat (first | apply Kd.R_alloc | apply Kd.R_drewN | apply Kd.R_drew)); exact Kd.R_mono HO239.out (fun _ hk => hk.1)⟩, ⟨hb_⟩⟩
  case round =>
   clear H'; (try clear c1); (try clear p2); (try clear c3); obtain ⟨x6_1, x7_1, x8_1, rfl, HA, HK1, HO_6, HO_7, HB⟩ := hrel
   cases gk with
   | zero => exact absurd HA.out (by simp [signatoryref13_Reduced.l0])
   | succ k1 =>
    have H := HA.out; clear HA; simp only [signatoryref13_Reduced.l0] at H
    by_cases c9 : x8_1 < a1
    ·rw [if_pos c9] at H
     have c9b0 : decide (x8_1 < a1) = true := decide_eq_true c9; clear c9; have HC10 := Aside0.mk H; clear H; obtain ⟨Ao11, co11, eo11⟩ := Kd.R_slice HO_7.out; subst eo11
     go_upto_block 2 with (fail)
     go_cut [10] (fun v10 wc => ∃ (kq : Nat) (x10_9 : Int), v10 = .int .i64 x10_9 ∧ Aside0 (signatoryref13_Reduced.j2 kq a1 x6_1 x7_1 x8_1 (x7_1.length : Int) x10_9 = some (r1, r2)) ∧ Aside0 (kq ≤ k1) ∧ Aside0 (Kd.N (Kd.slice 3 (Kd.int .i64)) 23 wc w.heap.size (fun k_ => (P0_ k_ ∨ w.heap.size ≤ k_) ∧ some k_ ≠ ((.slice Ao11 x7_1.length co11) : Value).ownBlock) v235 x6_1) ∧ Aside0 (Kd.R (Kd.int .i64) 3 wc w.heap.size (fun k_ => (w.heap.size ≤ k_)) (.slice Ao11 x7_1.length co11) x7_1) ∧ Aside0 (Below w.heap.size w wc))
     case first =>
      have H := HC10.out; clear HC10; have H' := Aside0.mk H; clear H; go_wp2
      go_loopg [10] k1 (fun kq v10 w' => ∃ (x10_2 : Int), v10 = .int .i64 x10_2 ∧ Aside0 (signatoryref13_Reduced.l1 kq a1 x6_1 x7_1 x8_1 (x7_1.length : Int) x10_2 = some (r1, r2)) ∧ Aside0 (kq ≤ k1) ∧ Aside0 (Kd.N (Kd.slice 3 (Kd.int .i64)) 23 w' w.heap.size (fun k_ => (P0_ k_ ∨ w.heap.size ≤ k_) ∧ some k_ ≠ ((.slice Ao11 x7_1.length co11) : Value).ownBlock) v235 x6_1) ∧ Aside0 (Kd.R (Kd.int .i64) 3 w' w.heap.size (fun k_ => (w.heap.size ≤ k_)) (.slice Ao11 x7_1.length co11) x7_1) ∧ Aside0 (Below w.heap.size w w'))
      case atStart => exact ⟨((x7_1.length : Int)), rf_, H', ⟨Nat.le_refl _⟩, ⟨rn_ HO_6.out⟩, ⟨rr_ HO_7.out⟩, ⟨hb_⟩⟩
      case round =>
       clear H'; (try clear c1); (try clear p2); (try clear c3); (try clear c9); (try clear c9b0); (try clear p2); obtain ⟨x10_2, rfl, HA, HK2, HO_6, HO_7, HB⟩ := hrel
       cases gk with
       | zero => exact absurd HA.out (by simp [signatoryref13_Reduced.l1])
       | succ k2 =>
        have H := HA.out; clear HA; simp only [signatoryref13_Reduced.l1] at H
        by_cases c12 : x10_2 < (x6_1.length : Int)
        ·rw [if_pos c12] at H
         have c12b0 : decide (x10_2 < (x6_1.length : Int)) = true := decide_eq_true c12; clear c12
         (first | rw [c12b0] | (simp only [i64_w, i32_w]; rw [c12b0]) | skip)
         by_cases c13 : 0 ≤ x10_2
         ·rw [if_pos c13] at H
          have c13b0 : decide (0 ≤ x10_2) = true := decide_eq_true c13; clear c13
          by_cases c14 : 0 ≤ x8_1
          ·rw [if_pos c14] at H
           have c14b0 : decide (0 ≤ x8_1) = true := decide_eq_true c14; clear c14
           by_cases c15 : x8_1 < ((rd_L1 x6_1 x10_2).length : Int)
           ·rw [if_pos c15] at H
            have c15b0 : decide (x8_1 < ((rd_L1 x6_1 x10_2).length : Int)) = true := decide_eq_true c15; clear c15
            by_cases c16 : (rd (rd_L1 x6_1 x10_2) x8_1) = 0
            ·rw [if_pos c16] at H
             have c16b0 : ((rd (rd_L1 x6_1 x10_2) x8_1) == 0) = true := beq_iff_eq.mpr c16; have c16b1 : ((rd (rd_L1 x6_1 x10_2) x8_1) != 0) = false := bne_eq_false_iff_eq.mpr c16; clear c16; have H' := Aside0.mk H; clear H; obtain ⟨Ao17, co17, eo17⟩ := Kd.N_slice HO_6.out; subst eo17; have p240 : 0 ≤ (x10_2 : Int) := of_decide_eq_true as_; have q240 : x10_2 < (x6_1.length : Int) := of_decide_eq_true as_; obtain ⟨ad240, A240_0, c240_0, e240, hx240_0, hl240_0, hi240_0⟩ := at_L1 (Kd.N_reads' HO_6.out).2.2 x10_2 p240 q240; cases e240; obtain ⟨ce240, hce240, hMe240, hcc240⟩ := Kd.N_get HO_6.out [] x10_2 p240 (by first | exact q240 | exact of_decide_eq_true as_ | (have e_ := (Kd.N_reads' HO_6.out).1; omega)); obtain ⟨ua240_0, uc240_0, rfl, ul240_0, ge240_0⟩ := Kd.FK_slice_open hMe240; have hv240_0 := hcc240 0 _ rfl; rw [Nat.add_zero, show ((Kd.slice 3 (Kd.int .i64))).sz = 1 from rfl, Nat.mul_one] at hv240_0; replace hv240_0 := Option.some.inj (hv240_0.symm.trans hx240_0); injection hv240_0 with hva_ hvn_ hvc_; rw [hva_] at ge240_0; rw [hvc_] at ul240_0; have HL240_0 := Aside0.mk (show Kd.V (Kd.int .i64) 3 _ w.heap.size _ _ (rd_L1 x6_1 x10_2) from Kd.V_mk ul240_0 ge240_0); clear hva_ hvn_ hvc_ ge240_0 ul240_0; clear hcc240 hce240; have HR240_0 := Aside0.mk hi240_0; have HC240_0 := Aside0.mk hl240_0; clear hi240_0 hl240_0; replace p240 := eq_true p240; replace q240 := eq_true q240; have p241 : 0 ≤ (x8_1 : Int) := of_decide_eq_true as_; have q241 : x8_1 < ((rd_L1 x6_1 x10_2).length : Int) := of_decide_eq_true as_; obtain ⟨ad241, e241, hx241_0⟩ := Kd.at_int (cb_ HR240_0.out) x8_1 p241 q241; cases e241; replace p241 := eq_true p241; replace q241 := eq_true q241; go_wp2
             go_roundg k2
             case measure => have := HK1.out; have := HK2.out; omega
             case rel => exact ⟨(wrap64 (x10_2 + 1)), rf_, H', ⟨by have := HK1.out; have := HK2.out; omega⟩, ⟨rn_ HO_6.out⟩, ⟨rr_ HO_7.out⟩, ⟨hb_⟩⟩
            ·rw [if_neg c16] at H
             have c16b0 : ((rd (rd_L1 x6_1 x10_2) x8_1) == 0) = false := beq_eq_false_iff_ne.mpr c16; have c16b1 : ((rd (rd_L1 x6_1 x10_2) x8_1) != 0) = true := bne_iff_ne.mpr c16; have H' := Aside0.mk H; clear H; obtain ⟨Ao18, co18, eo18⟩ := Kd.N_slice HO_6.out; subst eo18; have p240 : 0 ≤ (x10_2 : Int) := of_decide_eq_true as_; have q240 : x10_2 < (x6_1.length : Int) := of_decide_eq_true as_; obtain ⟨ad240, A240_0, c240_0, e240, hx240_0, hl240_0, hi240_0⟩ := at_L1 (Kd.N_reads' HO_6.out).2.2 x10_2 p240 q240; cases e240; obtain ⟨ce240, hce240, hMe240, hcc240⟩ := Kd.N_get HO_6.out [] x10_2 p240 (by first | exact q240 | exact of_decide_eq_true as_ | (have e_ := (Kd.N_reads' HO_6.out).1; omega)); obtain ⟨ua240_0, uc240_0, rfl, ul240_0, ge240_0⟩ := Kd.FK_slice_open hMe240; have hv240_0 := hcc240 0 _ rfl; rw [Nat.add_zero, show ((Kd.slice 3 (Kd.int .i64))).sz = 1 from rfl, Nat.mul_one] at hv240_0; replace hv240_0 := Option.some.inj (hv240_0.symm.trans hx240_0); injection hv240_0 with hva_ hvn_ hvc_; rw [hva_] at ge240_0; rw [hvc_] at ul240_0; have HL240_0 := Aside0.mk (show Kd.V (Kd.int .i64) 3 _ w.heap.size _ _ (rd_L1 x6_1 x10_2) from Kd.V_mk ul240_0 ge240_0); clear hva_ hvn_ hvc_ ge240_0 ul240_0; clear hcc240 hce240; have HR240_0 := Aside0.mk hi240_0; have HC240_0 := Aside0.mk hl240_0; clear hi240_0 hl240_0; replace p240 := eq_true p240; replace q240 := eq_true q240; have p241 : 0 ≤ (x8_1 : Int) := of_decide_eq_true as_; have q241 : x8_1 < ((rd_L1 x6_1 x10_2).length : Int) := of_decide_eq_true as_; obtain ⟨ad241, e241, hx241_0⟩ := Kd.at_int (cb_ HR240_0.out) x8_1 p241 q241; cases e241; replace p241 := eq_true p241; replace q241 := eq_true q241; go_wp2
             go_meet
             case rel => exact ⟨_, (x10_2), rf_, H', ⟨by have := HK1.out; have := HK2.out; first | omega | exact Nat.le_refl _⟩, ⟨rn_ HO_6.out⟩, ⟨rr_ HO_7.out⟩, ⟨hb_⟩⟩
           ·rw [if_neg c15] at H
            exact absurd H (by simp)
          ·rw [if_neg c14] at H
           exact absurd H (by simp)
         ·rw [if_neg c13] at H
          exact absurd H (by simp)
        ·rw [if_neg c12] at H
         have c12b0 : decide (x10_2 < (x6_1.length : Int)) = false := decide_eq_false c12; clear c12
         (first | rw [c12b0] | (simp only [i64_w, i32_w]; rw [c12b0]) | skip)
         have H' := Aside0.mk H; clear H; obtain ⟨Ao19, co19, eo19⟩ := Kd.N_slice HO_6.out; subst eo19; go_wp2
         go_meet
         case rel => exact ⟨_, (x10_2), rf_, H', ⟨by have := HK1.out; have := HK2.out; first | omega | exact Nat.le_refl _⟩, ⟨rn_ HO_6.out⟩, ⟨rr_ HO_7.out⟩, ⟨hb_⟩⟩
     case rest =>
      clear HC10; (try clear c1); (try clear c2); (try clear p2); (try clear q2); (try clear hx2); (try clear c3); (try clear p6); (try clear c9); (try clear c9b0); (try clear c12); (try clear c12b0); (try clear c13); (try clear c13b0); (try clear c14); (try clear c14b0); (try clear c15); (try clear c15b0); (try clear c16); (try clear c16b0); (try clear c16b1); (try clear c17); (try clear hx240_0); (try clear hx241_0); (try clear p2); (try clear p240); (try clear p241); (try clear q240); (try clear q241); obtain ⟨kq, x10_9, rfl, HA, HJ9, HO_6, HO_7, HB⟩ := hcut
      cases kq with
      | zero => exact absurd HA.out (by simp [signatoryref13_Reduced.j2])
      | succ kj9 =>
       have H := HA.out; clear HA; simp only [signatoryref13_Reduced.j2] at H
       by_cases c20 : x10_9 ≥ (x6_1.length : Int)
       ·rw [if_pos c20] at H
        have c20b0 : decide ((x6_1.length : Int) ≤ x10_9) = true := decide_eq_true c20; clear c20; have H' := Aside0.mk H; clear H; obtain ⟨Ao21, co21, eo21⟩ := Kd.N_slice HO_6.out; subst eo21; go_wp2
        go_roundg kj9
        case measure => have := HK1.out; have := HJ9.out; omega
        case rel => exact ⟨(x6_1), (x7_1), (wrap64 (x8_1 + 1)), rf_, H', ⟨by have := HK1.out; have := HJ9.out; omega⟩, ⟨rn_ HO_6.out⟩, ⟨rr_ HO_7.out⟩, ⟨hb_⟩⟩
       ·rw [if_neg c20] at H
        have c20b0 : decide ((x6_1.length : Int) ≤ x10_9) = false := decide_eq_false c20; clear c20
        by_cases c22 : 0 ≤ x10_9
        ·rw [if_pos c22] at H
         have c22b0 : decide (0 ≤ x10_9) = true := decide_eq_true c22; clear c22
         by_cases c23 : x10_9 < (x6_1.length : Int)
         ·rw [if_pos c23] at H
          have c23b0 : decide (x10_9 < (x6_1.length : Int)) = true := decide_eq_true c23; clear c23
          by_cases c24 : 0 ≤ (x7_1.length : Int)
          ·rw [if_pos c24] at H
           have c24b0 : decide (0 ≤ (x7_1.length : Int)) = true := decide_eq_true c24; have c24b1 : decide (0 ≤ x7_1.length) = true := decide_eq_true (by omega); clear c24
           by_cases c25 : (x7_1.length : Int) < (x6_1.length : Int)
           ·rw [if_pos c25] at H
            have c25b0 : decide ((x7_1.length : Int) < (x6_1.length : Int)) = true := decide_eq_true c25; have c25b1 : decide (x7_1.length < x6_1.length) = true := decide_eq_true (Int.ofNat_lt.mp c25); clear c25
            obtain ⟨y244, hy244⟩ : ∃ y_ : List (List Int), y_ = (x6_1.set (x10_9 : Int).toNat (rd_L1 x6_1 (x7_1.length : Int))) := ⟨_, rfl⟩
            replace H : (if 0 ≤ x8_1 then (if x8_1 < ((rd_L1 x6_1 x10_9).length : Int) then ((signatoryref09_Inverse.f kj9 (rd (rd_L1 x6_1 x10_9) x8_1)).bind fun bt246 => ((signatoryref13_times.f kj9 (rd_L1 x6_1 x10_9) bt246.1).bind fun t248 => (signatoryref13_Reduced.l2 kj9 a1 y244 x7_1 x8_1 (x7_1.length : Int) t248 0))) else (none)) else (none)) = some (r1, r2) := by first | (rw [hy244]; with_reducible exact H) | (have H2_ := (Option.bind_some _ _).symm.trans H; rw [hy244]; with_reducible exact H2_) | (have H2_ := (Option.bind_some _ _).symm.trans H; with_reducible exact H2_) | with_reducible exact H | (rw [hy244]; exact H) | exact H
            have Ny244 := Aside0.mk hy244; clear hy244
            by_cases c27 : 0 ≤ x8_1
            ·rw [if_pos c27] at H
             have c27b0 : decide (0 ≤ x8_1) = true := decide_eq_true c27; clear c27
             by_cases c28 : x8_1 < ((rd_L1 x6_1 x10_9).length : Int)
             ·rw [if_pos c28] at H
              have c28b0 : decide (x8_1 < ((rd_L1 x6_1 x10_9).length : Int)) = true := decide_eq_true c28; clear c28; replace H := Option.bind_eq_some_iff.mp H; obtain ⟨⟨t246, t247⟩, A290, H⟩ := H; replace H : ((signatoryref13_times.f kj9 (rd_L1 x6_1 x10_9) t246).bind fun t248 => (signatoryref13_Reduced.l2 kj9 a1 y244 x7_1 x8_1 (x7_1.length : Int) t248 0)) = some (r1, r2) := H; have A29 := Aside0.mk A290; clear A290; replace H := Option.bind_eq_some_iff.mp H; obtain ⟨t248, A300, H⟩ := H; replace H : (signatoryref13_Reduced.l2 kj9 a1 y244 x7_1 x8_1 (x7_1.length : Int) t248 0) = some (r1, r2) := H; have A30 := Aside0.mk A300; clear A300; have H' := Aside0.mk H; clear H; obtain ⟨Ao31, co31, eo31⟩ := Kd.N_slice HO_6.out; subst eo31; have p242 : 0 ≤ (x10_9 : Int) := of_decide_eq_true as_; have q242 : x10_9 < (x6_1.length : Int) := of_decide_eq_true as_; obtain ⟨ad242, A242_0, c242_0, e242, hx242_0, hl242_0, hi242_0⟩ := at_L1 (Kd.N_reads' HO_6.out).2.2 x10_9 p242 q242; cases e242; obtain ⟨ce242, hce242, hMe242, hcc242⟩ := Kd.N_get HO_6.out [] x10_9 p242 (by first | exact q242 | exact of_decide_eq_true as_ | (have e_ := (Kd.N_reads' HO_6.out).1; omega)); obtain ⟨ua242_0, uc242_0, rfl, ul242_0, ge242_0⟩ := Kd.FK_slice_open hMe242; have hv242_0 := hcc242 0 _ rfl; rw [Nat.add_zero, show ((Kd.slice 3 (Kd.int .i64))).sz = 1 from rfl, Nat.mul_one] at hv242_0; replace hv242_0 := Option.some.inj (hv242_0.symm.trans hx242_0); injection hv242_0 with hva_ hvn_ hvc_; rw [hva_] at ge242_0; rw [hvc_] at ul242_0; have HL242_0 := Aside0.mk (show Kd.V (Kd.int .i64) 3 _ w.heap.size _ _ (rd_L1 x6_1 x10_9) from Kd.V_mk ul242_0 ge242_0); clear hva_ hvn_ hvc_ ge242_0 ul242_0; clear hcc242 hce242; have HR242_0 := Aside0.mk hi242_0; have HC242_0 := Aside0.mk hl242_0; clear hi242_0 hl242_0; replace p242 := eq_true p242; replace q242 := eq_true q242; have p243 : 0 ≤ ((x7_1.length : Int) : Int) := of_decide_eq_true as_; have q243 : (x7_1.length : Int) < (x6_1.length : Int) := of_decide_eq_true as_; obtain ⟨ad243, A243_0, c243_0, e243, hx243_0, hl243_0, hi243_0⟩ := at_L1 (Kd.N_reads' HO_6.out).2.2 (x7_1.length : Int) p243 q243
              obtain rfl : ad242 = ad243 := (by injection e243)
              obtain ⟨ce243, hce243, hMe243, hcc243⟩ := Kd.N_get HO_6.out [] (x7_1.length : Int) p243 (by first | exact q243 | exact of_decide_eq_true as_ | (have e_ := (Kd.N_reads' HO_6.out).1; omega)); obtain ⟨ua243_0, uc243_0, rfl, ul243_0, ge243_0⟩ := Kd.FK_slice_open hMe243; have hv243_0 := hcc243 0 _ rfl; rw [Nat.add_zero, show ((Kd.slice 3 (Kd.int .i64))).sz = 1 from rfl, Nat.mul_one] at hv243_0; replace hv243_0 := Option.some.inj (hv243_0.symm.trans hx243_0); injection hv243_0 with hva_ hvn_ hvc_; rw [hva_] at ge243_0; rw [hvc_] at ul243_0; have HL243_0 := Aside0.mk (show Kd.V (Kd.int .i64) 3 _ w.heap.size _ _ (rd_L1 x6_1 (x7_1.length : Int)) from Kd.V_mk ul243_0 ge243_0); clear hva_ hvn_ hvc_ ge243_0 ul243_0; clear hcc243 hce243; have HR243_0 := Aside0.mk hi243_0; have HC243_0 := Aside0.mk hl243_0; clear hi243_0 hl243_0; (try simp only [Go.IntWalk.toNatUp] at hx243_0); replace p243 := eq_true p243; replace q243 := eq_true q243; have p26 : 0 ≤ (x10_9 : Int) := of_decide_eq_true as_; have q26 : (x10_9 : Int) < ((x6_1.length : Int) : Int) := of_decide_eq_true as_; obtain ⟨go26, co26, eo26, gb26, gl26, cl26, HG26⟩ := Kd.N_form HO_6.out (by omega)
              (first | cases eo26 | (injection eo26 with ea_ en_ ec_; (first | subst ea_ | (injection ea_ with ea_; subst ea_)); subst ec_; clear en_))
              have GB26 := Aside0.mk gb26; have GG26 := Aside0.mk HG26; clear gb26 gl26 HG26
              (first | simp only [add_plain] at hx242_0 | skip)
              (first | simp only [add_plain] at hx243_0 | skip)
              obtain ⟨ce26, hcl26, hM26, hcc26, hfr26⟩ := Kd.N_elem HO_6.out [] (x10_9 : Int) p26 q26; obtain ⟨ua26_0, uc26_0, rfl, ul26_0, ge26_0⟩ := Kd.FK_slice_open hM26; have hx26_0 := hcc26 0 _ rfl; have hf26_0 := hfr26 0; (try simp only [show ((Kd.slice 3 (Kd.int .i64))).sz = 1 from rfl, Nat.mul_one, Nat.add_zero] at hx26_0); (try simp only [show ((Kd.slice 3 (Kd.int .i64))).sz = 1 from rfl, Nat.mul_one, Nat.add_zero] at hf26_0); clear hcl26 hcc26 hfr26 hM26; replace p26 := eq_true p26; replace q26 := eq_true q26; have HX32 := Aside0.mk (show Kd.N (Kd.slice 3 (Kd.int .i64)) 23 wc w.heap.size (fun k_ => (P0_ k_ ∨ w.heap.size ≤ k_) ∧ some k_ ≠ (.slice Ao11 x7_1.length co11 : Value).ownBlock) (.slice (some ⟨go26, 0, none⟩) x6_1.length co31) x6_1 from (rn_ HO_6.out)); obtain ⟨ce32, hcl32, hM32, hcc32, hfr32⟩ := Kd.N_elem HX32.out [] (x10_9 : Int) (of_decide_eq_true as_) (by have h_ : (x10_9 : Int) < ((x6_1.length : Int) : Int) := of_decide_eq_true as_; first | exact h_ | (have e_ := (Kd.N_reads' HO_6.out).1; omega) | simpa using h_); obtain ⟨ua32_0, uc32_0, rfl, ul32_0, ge32_0⟩ := Kd.FK_slice_open hM32; have HP32 := Kd.N_seg HX32.out (x10_9 : Int) (of_decide_eq_true as_) (by have h_ : (x10_9 : Int) < ((x6_1.length : Int) : Int) := of_decide_eq_true as_; first | exact h_ | (have e_ := (Kd.N_reads' HO_6.out).1; omega) | simpa using h_) (seg := [.slice A243_0 (rd_L1 x6_1 (x7_1.length : Int)).length c243_0]) (j := 0) hcl32 hcc32 (show 1 ≤ 1 from by decide) (x' := rd_L1 x6_1 (x7_1.length : Int)) (Kd.FK_slice_mk (Kd.V_reads' (Kd.V_mono (ok' := (fun k_ => ((fun k_ => (P0_ k_ ∨ w.heap.size ≤ k_) ∧ some k_ ≠ (.slice Ao11 x7_1.length co11 : Value).ownBlock)) k_ ∧ k_ ≠ go26)) (HL243_0.out) (fun k_ hk => ⟨⟨hk.1.1, hk.1.2⟩, fun e_ => (hk.2) (by rw [e_]; rfl)⟩))).2.1 (Kd.V_F (Kd.V_mono (ok' := (fun k_ => ((fun k_ => (P0_ k_ ∨ w.heap.size ≤ k_) ∧ some k_ ≠ (.slice Ao11 x7_1.length co11 : Value).ownBlock)) k_ ∧ k_ ≠ go26)) (HL243_0.out) (fun k_ hk => ⟨⟨hk.1.1, hk.1.2⟩, fun e_ => (hk.2) (by rw [e_]; rfl)⟩)))) (fun _ hk => hk); have hx32_0 := hcc32 0 _ rfl; (try simp only [show ((Kd.slice 3 (Kd.int .i64))).sz = 1 from rfl, Nat.mul_one, Nat.add_zero] at hx32_0); have hf32_0 := hfr32 0; (try simp only [show ((Kd.slice 3 (Kd.int .i64))).sz = 1 from rfl, Nat.mul_one, Nat.add_zero] at hf32_0); clear hcl32 hcc32 hfr32 hM32; (try simp only [show ((Kd.slice 3 (Kd.int .i64))).sz = 1 from rfl, Nat.mul_one, Nat.add_zero] at HP32); (try simp only [show ((Kd.slice 3 (Kd.int .i64))).sz = 1 from rfl, Nat.mul_one, Nat.add_zero] at HP32); go_wp2_with (first | ((with_reducible refine gate_store (t := 23) (p := 57) rfl ?_); refine store_event (t := 23) (p := 57) (v := ?vo_w33) (w1 := (wc.setCell ⟨go26, (x10_9 : Int).toNat, none⟩ (.slice A243_0 (rd_L1 x6_1 (x7_1.length : Int)).length c243_0))) ?hg ?ho ?hn ?hr ?_; (case ho => rfl); (case hg => rfl); (case hn => rfl); (case hr => first | (go_simp; done) | (go_simp; rfl)); intro w33 hw; have hg : wc.grownBy w33 (some go26) := (by rw [hw]; exact HP32.2); have hp_ : Kd.N (Kd.slice 3 (Kd.int .i64)) 23 w33 w.heap.size (fun k_ => (P0_ k_ ∨ w.heap.size ≤ k_) ∧ some k_ ≠ (.slice Ao11 x7_1.length co11 : Value).ownBlock) (.slice (some ⟨go26, 0, none⟩) x6_1.length co31) y244 := (by rw [hw, Ny244.out]; exact HP32.1); clear HP32; have n0_ := Aside0.mk (hp_); have n1_ := Aside0.mk (Kd.R_over' (v := (.slice (some ⟨go26, 0, none⟩) x6_1.length co31)) (rr_ HO_7.out) (Kd.N_typed HO_6.out) (by decide) hg); have n2_ := Aside0.mk (Kd.V_afterv (v := (.slice (some ⟨go26, 0, none⟩) x6_1.length co31)) (v1 := (.slice (some ⟨go26, 0, none⟩) x6_1.length co31)) (ok := (fun k_ => (P0_ k_ ∨ w.heap.size ≤ k_) ∧ some k_ ≠ (.slice Ao11 x7_1.length co11 : Value).ownBlock)) (rv_ HL242_0.out) hg (.inl rfl)); have n3_ := Aside0.mk (Kd.V_afterv (v := (.slice (some ⟨go26, 0, none⟩) x6_1.length co31)) (v1 := (.slice (some ⟨go26, 0, none⟩) x6_1.length co31)) (ok := (fun k_ => (P0_ k_ ∨ w.heap.size ≤ k_) ∧ some k_ ≠ (.slice Ao11 x7_1.length co11 : Value).ownBlock)) (rv_ HL243_0.out) hg (.inl rfl)); have n4_ := Aside0.mk ((by rw [hw]; exact below_set (HB.out) GB26.out : Below w.heap.size w w33)); clear HO_6; clear HO_7; clear HL242_0; clear HL243_0; clear HB; have HO_6 := n0_; have HO_7 := n1_; have HL242_0 := n2_; have HL243_0 := n3_; have HB := n4_; clear n0_ n1_ n2_ n3_ n4_; clear hg hw hp_; have p245 : 0 ≤ (x8_1 : Int) := of_decide_eq_true as_; have q245 : x8_1 < ((rd_L1 x6_1 x10_9).length : Int) := of_decide_eq_true as_; obtain ⟨ad245, e245, hx245_0⟩ := Kd.at_int ((Kd.V_reads' HL242_0.out).2.2) x8_1 p245 q245; cases e245; replace p245 := eq_true p245; replace q245 := eq_true q245) | ((with_reducible refine gate_callee (f := 200) rfl ?_); refine goesL_ (some 63) rfl rfl Try.func200 (by kernel_rfl) rfl #[.int .i64 (rd (rd_L1 x6_1 x10_9) x8_1)] rfl mp_ ?_; (with_reducible refine (signatoryref09_Inverse.calls kj9 (rd (rd_L1 x6_1 x10_9) x8_1) t246 t247 _ A29.out).mono ?_); rintro e w' ⟨rfl, ⟨nd, rfl⟩⟩; refine ⟨_, rfl, ?_⟩) | ((with_reducible refine gate_callee (f := 201) rfl ?_); refine goesL_ (some 68) rfl rfl Try.func201 (by kernel_rfl) rfl #[.slice (some ad245) (rd_L1 x6_1 x10_9).length c242_0, .int .i64 t246] rfl mp_ ?_; (with_reducible refine (signatoryref13_times.calls kj9 _ _ (rd_L1 x6_1 x10_9) t246 t248 _ ?side1 ?side2 A30.out).mono ?_); (case side1 => repeat (first | exact ((Kd.V_reads' (rv_ HL242_0.out)).2.2) | (with_reducible refine Kd.C_alloc ?_ _) | (with_reducible refine Kd.C_drewN ?_ _) | (with_reducible refine Kd.C_drew ?_))); (case side2 => exact HC242_0.out); rintro e w34 ⟨v249, rfl, ho0, hb⟩; refine ⟨_, rfl, ?_⟩; have n0_ := Aside0.mk (Kd.N_elder' (rn_ HO_6.out) (Kd.R_base ho0) hb); have n1_ := Aside0.mk (Kd.R_elder' (rr_ HO_7.out) (Kd.R_base ho0) hb); have n2_ := Aside0.mk (Kd.V_elder' (rv_ HL242_0.out) (Kd.R_base ho0) hb); have n3_ := Aside0.mk (Kd.V_elder' (rv_ HL243_0.out) (Kd.R_base ho0) hb); have n4_ := Aside0.mk (Kd.R_lower (Kd.R_new' (Kd.R_newM (M := fun k_ => (w.heap.size ≤ k_)) ho0 (below_size hb_) (fun k_ h_ => h_)) (Kd.R_lt (rr_ HO_7.out))) (below_size hb_)); have n5_ := Aside0.mk (below_step hb_ hb); clear HO_6; clear HO_7; clear HL242_0; clear HL243_0; clear HB; have HO_6 := n0_; have HO_7 := n1_; have HL242_0 := n2_; have HL243_0 := n3_; have HO250 := n4_; have HB := n5_; clear n0_ n1_ n2_ n3_ n4_ n5_; (try clear hb); (try clear hb2); (try clear hk); (try clear hi); (try clear ho0)))
              go_loopg [14] kj9 (fun kq v14 w' => ∃ (x6_3 : List (List Int)) (x14_3 : Int), v14 = .int .i64 x14_3 ∧ Aside0 (signatoryref13_Reduced.l2 kq a1 x6_3 x7_1 x8_1 (x7_1.length : Int) t248 x14_3 = some (r1, r2)) ∧ Aside0 (kq ≤ kj9) ∧ Aside0 (Kd.N (Kd.slice 3 (Kd.int .i64)) 23 w' w.heap.size (fun k_ => (P0_ k_ ∨ w.heap.size ≤ k_) ∧ some k_ ≠ ((.slice Ao11 x7_1.length co11) : Value).ownBlock ∧ some k_ ≠ (v249 : Value).ownBlock) (.slice (some ⟨go26, 0, none⟩) x6_1.length co31) x6_3) ∧ Aside0 (Kd.R (Kd.int .i64) 3 w' w.heap.size (fun k_ => (w.heap.size ≤ k_) ∧ some k_ ≠ (v249 : Value).ownBlock) (.slice Ao11 x7_1.length co11) x7_1) ∧ Aside0 (Kd.R (Kd.int .i64) 3 w' w.heap.size (fun k_ => (w.heap.size ≤ k_) ∧ some k_ ≠ ((.slice Ao11 x7_1.length co11) : Value).ownBlock) v249 t248) ∧ Aside0 (Below w.heap.size w w'))
              case atStart => exact ⟨(y244), (0), rf_, H', ⟨Nat.le_refl _⟩, ⟨by (with_reducible repeat (first | apply Kd.N_alloc | apply Kd.N_drewN | apply Kd.N_drew)); exact Kd.N_mono HO_6.out (fun _ hk => ⟨hk.1.1, ⟨hk.1.2, hk.2⟩⟩)⟩, ⟨rr_ HO_7.out⟩, ⟨by (with_reducible repeat (first | apply Kd.R_alloc | apply Kd.R_drewN | apply Kd.R_drew)); exact Kd.R_mono HO250.out (fun _ hk => ⟨hk.1.1, hk.2⟩)⟩, ⟨hb_⟩⟩
              case round =>
               clear H'; (try clear c1); (try clear c2); (try clear p2); (try clear q2); (try clear hx2); (try clear hf2); (try clear c3); (try clear hx3); (try clear hf3); (try clear p6); (try clear c9); (try clear c9b0); (try clear c12); (try clear c12b0); (try clear c13); (try clear c13b0); (try clear c14); (try clear c14b0); (try clear c15); (try clear c15b0); (try clear c16); (try clear c16b0); (try clear c16b1); (try clear c17); (try clear c20); (try clear c20b0); (try clear c22); (try clear c22b0); (try clear c23); (try clear c23b0); (try clear c24); (try clear c24b0); (try clear c24b1); (try clear p24); (try clear q24); (try clear hx24); (try clear c25); (try clear c25b0); (try clear c25b1); (try clear c26); (try clear p26); (try clear q26); (try clear hx26); (try clear hf26); (try clear c27); (try clear c27b0); (try clear c28); (try clear c28b0); (try clear c32); (try clear hx32); (try clear hf32); (try clear hx240_0); (try clear hx241_0); (try clear hx242_0); (try clear hx243_0); (try clear hx245_0); (try clear hx26_0); (try clear hx32_0); (try clear p2); (try clear p240); (try clear p241); (try clear p242); (try clear p243); (try clear p245); (try clear p26); (try clear p6); (try clear q2); (try clear q240); (try clear q241); (try clear q242); (try clear q243); (try clear q245); (try clear q26); obtain ⟨x6_3, x14_3, rfl, HA, HK3, HO_6, HO_7, HO_11, HB⟩ := hrel; have hl6_3 := (Kd.N_reads' HO_6.out).1; rw [hl6_3] at HO_6; (try simp only [hl6_3]); (try simp only [hl6_3] at HO_7); (try simp only [hl6_3] at HO_11)
               cases gk with
               | zero => exact absurd HA.out (by simp [signatoryref13_Reduced.l2])
               | succ k3 =>
                have H := HA.out; clear HA; simp only [signatoryref13_Reduced.l2] at H
                by_cases c35 : x14_3 < (x6_3.length : Int)
                ·rw [if_pos c35] at H
                 have c35b0 : decide (x14_3 < (x6_3.length : Int)) = true := decide_eq_true c35; clear c35
                 by_cases c36 : 0 ≤ x14_3
                 ·rw [if_pos c36] at H
                  have c36b0 : decide (0 ≤ x14_3) = true := decide_eq_true c36; clear c36
                  by_cases c37 : 0 ≤ x8_1
                  ·rw [if_pos c37] at H
                   have c37b0 : decide (0 ≤ x8_1) = true := decide_eq_true c37; clear c37
                   by_cases c38 : x8_1 < ((rd_L1 x6_3 x14_3).length : Int)
                   ·rw [if_pos c38] at H
                    have c38b0 : decide (x8_1 < ((rd_L1 x6_3 x14_3).length : Int)) = true := decide_eq_true c38; clear c38; replace H := Option.bind_eq_some_iff.mp H; obtain ⟨t254, A390, H⟩ := H; replace H : (signatoryref13_Reduced.l2 k3 a1 (x6_3.set (x14_3 : Int).toNat t254) x7_1 x8_1 (x7_1.length : Int) t248 (wrap64 (x14_3 + 1))) = some (r1, r2) := H; have A39 := Aside0.mk A390; clear A390
                    obtain ⟨y257, hy257⟩ : ∃ y_ : List (List Int), y_ = (x6_3.set (x14_3 : Int).toNat t254) := ⟨_, rfl⟩
                    replace H : (signatoryref13_Reduced.l2 k3 a1 y257 x7_1 x8_1 (x7_1.length : Int) t248 (wrap64 (x14_3 + 1))) = some (r1, r2) := by first | (rw [hy257]; with_reducible exact H) | (have H2_ := (Option.bind_some _ _).symm.trans H; rw [hy257]; with_reducible exact H2_) | (have H2_ := (Option.bind_some _ _).symm.trans H; with_reducible exact H2_) | with_reducible exact H | (rw [hy257]; exact H) | exact H
                    have Ny257 := Aside0.mk hy257; clear hy257; have H' := Aside0.mk H; clear H
                    try go_wp2
                    have n0_ := Aside0.mk (Kd.N_drew HO_6.out); have n1_ := Aside0.mk (Kd.R_drew HO_7.out); have n2_ := Aside0.mk (Kd.R_drew HO_11.out); have n3_ := Aside0.mk (below_drew1 HB.out); clear HO_6; clear HO_7; clear HO_11; clear HB; have HO_6 := n0_; have HO_7 := n1_; have HO_11 := n2_; have HB := n3_; clear n0_ n1_ n2_ n3_; have p251 : 0 ≤ (x14_3 : Int) := of_decide_eq_true as_; have q251 : x14_3 < (x6_3.length : Int) := of_decide_eq_true as_; obtain ⟨ad251, A251_0, c251_0, e251, hx251_0, hl251_0, hi251_0⟩ := at_L1 (Kd.N_reads' HO_6.out).2.2 x14_3 p251 q251
                    obtain rfl : (⟨go26, 0, none⟩ : Addr) = ad251 := (by injection e251)
                    obtain ⟨ce251, hce251, hMe251, hcc251⟩ := Kd.N_get HO_6.out [] x14_3 p251 (by first | exact q251 | exact of_decide_eq_true as_ | (have e_ := (Kd.N_reads' HO_6.out).1; omega)); obtain ⟨ua251_0, uc251_0, rfl, ul251_0, ge251_0⟩ := Kd.FK_slice_open hMe251; have hv251_0 := hcc251 0 _ rfl; rw [Nat.add_zero, show ((Kd.slice 3 (Kd.int .i64))).sz = 1 from rfl, Nat.mul_one] at hv251_0; replace hv251_0 := Option.some.inj (hv251_0.symm.trans hx251_0); injection hv251_0 with hva_ hvn_ hvc_; rw [hva_] at ge251_0; rw [hvc_] at ul251_0; have HL251_0 := Aside0.mk (show Kd.V (Kd.int .i64) 3 _ w.heap.size _ _ (rd_L1 x6_3 x14_3) from Kd.V_mk ul251_0 ge251_0); clear hva_ hvn_ hvc_ ge251_0 ul251_0; clear hcc251 hce251
                    (first | simp only [add_plain] at hx251_0 | simp only [add_at] at hx251_0 | simp only [Addr.add, Nat.zero_add] at hx251_0 | skip)
                    have HR251_0 := Aside0.mk hi251_0; have HC251_0 := Aside0.mk hl251_0; clear hi251_0 hl251_0; replace p251 := eq_true p251; replace q251 := eq_true q251; have p252 : 0 ≤ (x14_3 : Int) := of_decide_eq_true as_; have q252 : x14_3 < (x6_3.length : Int) := of_decide_eq_true as_; obtain ⟨ad252, A252_0, c252_0, e252, hx252_0, hl252_0, hi252_0⟩ := at_L1 (Kd.N_reads' HO_6.out).2.2 x14_3 p252 q252
                    obtain rfl : (⟨go26, 0, none⟩ : Addr) = ad252 := (by injection e252)
                    obtain ⟨ce252, hce252, hMe252, hcc252⟩ := Kd.N_get HO_6.out [] x14_3 p252 (by first | exact q252 | exact of_decide_eq_true as_ | (have e_ := (Kd.N_reads' HO_6.out).1; omega)); obtain ⟨ua252_0, uc252_0, rfl, ul252_0, ge252_0⟩ := Kd.FK_slice_open hMe252; have hv252_0 := hcc252 0 _ rfl; rw [Nat.add_zero, show ((Kd.slice 3 (Kd.int .i64))).sz = 1 from rfl, Nat.mul_one] at hv252_0; replace hv252_0 := Option.some.inj (hv252_0.symm.trans hx252_0); injection hv252_0 with hva_ hvn_ hvc_; rw [hva_] at ge252_0; rw [hvc_] at ul252_0; have HL252_0 := Aside0.mk (show Kd.V (Kd.int .i64) 3 _ w.heap.size _ _ (rd_L1 x6_3 x14_3) from Kd.V_mk ul252_0 ge252_0); clear hva_ hvn_ hvc_ ge252_0 ul252_0; clear hcc252 hce252
                    (first | simp only [add_plain] at hx252_0 | simp only [add_at] at hx252_0 | simp only [Addr.add, Nat.zero_add] at hx252_0 | skip)
                    have HR252_0 := Aside0.mk hi252_0; have HC252_0 := Aside0.mk hl252_0; clear hi252_0 hl252_0; replace p252 := eq_true p252; replace q252 := eq_true q252; have ea_ := Option.some.inj (hx251_0.symm.trans hx252_0); injection ea_ with ea_ en_ ec_; subst ea_; subst ec_; clear en_; have p253 : 0 ≤ (x8_1 : Int) := of_decide_eq_true as_; have q253 : x8_1 < ((rd_L1 x6_3 x14_3).length : Int) := of_decide_eq_true as_; obtain ⟨ad253, e253, hx253_0⟩ := Kd.at_int (cb_ HR252_0.out) x8_1 p253 q253; cases e253; replace p253 := eq_true p253; replace q253 := eq_true q253; obtain ⟨Ao42, co42, eo42⟩ := Kd.R_slice HO_11.out
                    (first | subst eo42 | (injection eo42 with f1_ f2_ f3_; have f4_ := f1_.symm; have f5_ := f3_.symm; clear f1_ f2_ f3_; subst f4_; subst f5_))
                    refine start_ (n := 17) (S := fun w' => w'.cell? ⟨go26, (x14_3).toNat, none⟩ = some (.slice (some ad253) (rd_L1 x6_3 x14_3).length c251_0) ∧ w'.cell? ⟨go26, (x14_3).toNat, none⟩ = some (.slice (some ad253) (rd_L1 x6_3 x14_3).length c251_0) ∧ w'.cell? (ad253.add (x8_1).toNat) = some (.int .i64 (rd (rd_L1 x6_3 x14_3) x8_1))) (ds := [16]) #[false, false, false, false, false, false, false, false, false, false, false, false, false, false, false, false, false] (by kernel_rfl) rfl rfl ⟨hx251_0, hx252_0, hx253_0⟩ (fun hHeld => ?_); refine with_tabW signatoryref13_Reduced.tab18 signatoryref13_Reduced.bits18 (fun HT_ HW_ => ?_)
                    generalize wr.drew = w41 at HO_6 HO_7 HO_11 HB HL251_0 HL252_0 HR251_0 HR252_0 hx251_0 hx252_0 hx253_0 hHeld ⊢; refine pure_ (i := 0) (N := some 75) (v := ?_) (a' := ?_) #[true, false, false, false, false, false, false, false, false, false, false, false, false, false, false, false, false] rfl rfl (any_of HT_.out (by kernel_rfl)) (fun _ _ _ h => h) (Or.inl ⟨by rfl, ?_⟩) ?_ ?_; rotate_left
                    ·intro w'
                     go_simp
                     with_reducible rfl
                    rotate_left
                    ·simp only [Act.put, List.setIfInBounds_toArray, List.set_cons_zero, List.set_cons_succ, i64_w, i32_w]
                     rfl
                    refine pure_ (i := 1) (N := some 76) (v := ?_) (a' := ?_) #[true, true, false, false, false, false, false, false, false, false, false, false, false, false, false, false, false] rfl rfl (any_of HT_.out (by kernel_rfl)) (fun _ _ _ h => h) (Or.inl ⟨by rfl, ?_⟩) ?_ ?_; rotate_left
                    ·intro w'
                     go_simp
                     with_reducible rfl
                    rotate_left
                    ·simp only [Act.put, List.setIfInBounds_toArray, List.set_cons_zero, List.set_cons_succ, i64_w, i32_w]
                     rfl
                    refine pure_ (i := 2) (N := some 77) (v := ?_) (a' := ?_) #[true, true, true, false, false, false, false, false, false, false, false, false, false, false, false, false, false] rfl rfl (any_of HT_.out (by kernel_rfl)) (fun _ _ _ h => h) (Or.inl ⟨by rfl, ?_⟩) ?_ ?_; rotate_left
                    ·intro w'
                     go_simp
                     with_reducible rfl
                    rotate_left
                    ·simp only [Act.put, List.setIfInBounds_toArray, List.set_cons_zero, List.set_cons_succ, i64_w, i32_w]
                     rfl
                    refine pure_ (i := 3) (N := some 78) (v := ?_) (a' := ?_) #[true, true, true, true, false, false, false, false, false, false, false, false, false, false, false, false, false] rfl rfl (any_of HT_.out (by kernel_rfl)) (fun _ _ _ h => h) (Or.inl ⟨by rfl, ?_⟩) ?_ ?_; rotate_left
                    ·intro w'
                     go_simp
                     with_reducible rfl
                    rotate_left
                    ·simp only [Act.put, List.setIfInBounds_toArray, List.set_cons_zero, List.set_cons_succ, i64_w, i32_w]
                     rfl
                    refine pure_ (i := 4) (N := some 79) (v := ?_) (a' := ?_) #[true, true, true, true, true, false, false, false, false, false, false, false, false, false, false, false, false] rfl rfl (any_of HT_.out (by kernel_rfl)) (fun _ _ _ h => h) (Or.inl ⟨by rfl, ?_⟩) ?_ ?_; rotate_left
                    ·intro w'
                     go_simp
                     with_reducible rfl
                    rotate_left
                    ·simp only [Act.put, List.setIfInBounds_toArray, List.set_cons_zero, List.set_cons_succ, i64_w, i32_w]
                     rfl
                    refine pure_ (i := 6) (N := some 81) (v := ?_) (a' := ?_) #[true, true, true, true, true, false, true, false, false, false, false, false, false, false, false, false, false] rfl rfl (any_of HT_.out (by kernel_rfl)) (fun _ _ _ h => h) (Or.inl ⟨by rfl, ?_⟩) ?_ ?_; rotate_left
                    ·intro w'
                     go_simp
                     with_reducible rfl
                    rotate_left
                    ·simp only [Act.put, List.setIfInBounds_toArray, List.set_cons_zero, List.set_cons_succ, i64_w, i32_w]
                     rfl
                    refine pure_ (i := 7) (N := some 82) (v := ?_) (a' := ?_) #[true, true, true, true, true, false, true, true, false, false, false, false, false, false, false, false, false] rfl rfl (any_of HT_.out (by kernel_rfl)) (fun _ _ _ h => h) (Or.inl ⟨by rfl, ?_⟩) ?_ ?_; rotate_left
                    ·intro w'
                     go_simp
                     with_reducible rfl
                    rotate_left
                    ·simp only [Act.put, List.setIfInBounds_toArray, List.set_cons_zero, List.set_cons_succ, i64_w, i32_w]
                     rfl
                    refine pure_ (i := 8) (N := some 83) (v := ?_) (a' := ?_) #[true, true, true, true, true, false, true, true, true, false, false, false, false, false, false, false, false] rfl rfl (any_of HT_.out (by kernel_rfl)) (fun _ _ _ h => h) (Or.inl ⟨by rfl, ?_⟩) ?_ ?_; rotate_left
                    ·intro w'
                     go_simp
                     with_reducible rfl
                    rotate_left
                    ·simp only [Act.put, List.setIfInBounds_toArray, List.set_cons_zero, List.set_cons_succ, i64_w, i32_w]
                     rfl
                    refine pure_ (i := 9) (N := some 84) (v := ?_) (a' := ?_) #[true, true, true, true, true, false, true, true, true, true, false, false, false, false, false, false, false] rfl rfl (any_of HT_.out (by kernel_rfl)) (fun _ _ _ h => h) (Or.inl ⟨by rfl, ?_⟩) ?_ ?_; rotate_left
                    ·intro w'
                     go_simp
                     with_reducible rfl
                    rotate_left
                    ·simp only [Act.put, List.setIfInBounds_toArray, List.set_cons_zero, List.set_cons_succ, i64_w, i32_w]
                     rfl
                    refine pure_ (i := 11) (N := some 86) (v := ?_) (a' := ?_) #[true, true, true, true, true, false, true, true, true, true, false, true, false, false, false, false, false] rfl rfl (any_of HT_.out (by kernel_rfl)) (fun _ _ _ h => h) (Or.inl ⟨by rfl, ?_⟩) ?_ ?_; rotate_left
                    ·intro w'
                     go_simp
                     with_reducible rfl
                    rotate_left
                    ·simp only [Act.put, List.setIfInBounds_toArray, List.set_cons_zero, List.set_cons_succ, i64_w, i32_w]
                     rfl
                    refine take_ (i := 5) (N := some 80) (v := ?_) (a' := ?_) #[true, true, true, true, true, true, true, true, true, true, false, true, false, false, false, false, false] rfl rfl (take_ofW HT_.out HW_.out (by kernel_rfl)) (fun _ _ _ h => h) (Or.inl ⟨by rfl, ?_⟩) hHeld ?_ ?_; rotate_left
                    ·rintro w' ⟨s0, s1, s2⟩
                     go_simp
                     with_reducible rfl
                    rotate_left
                    ·simp only [Act.put, List.setIfInBounds_toArray, List.set_cons_zero, List.set_cons_succ, i64_w, i32_w]
                     rfl
                    refine take_ (i := 10) (N := some 85) (v := ?_) (a' := ?_) #[true, true, true, true, true, true, true, true, true, true, true, true, false, false, false, false, false] rfl rfl (take_ofW HT_.out HW_.out (by kernel_rfl)) (fun _ _ _ h => h) (Or.inl ⟨by rfl, ?_⟩) hHeld ?_ ?_; rotate_left
                    ·rintro w' ⟨s0, s1, s2⟩
                     go_simp
                     with_reducible rfl
                    rotate_left
                    ·simp only [Act.put, List.setIfInBounds_toArray, List.set_cons_zero, List.set_cons_succ, i64_w, i32_w]
                     rfl
                    refine pure_ (i := 12) (N := some 87) (v := ?_) (a' := ?_) #[true, true, true, true, true, true, true, true, true, true, true, true, true, false, false, false, false] rfl rfl (any_of HT_.out (by kernel_rfl)) (fun _ _ _ h => h) (Or.inl ⟨by rfl, ?_⟩) ?_ ?_; rotate_left
                    ·intro w'
                     go_simp
                     with_reducible rfl
                    rotate_left
                    ·simp only [Act.put, List.setIfInBounds_toArray, List.set_cons_zero, List.set_cons_succ, i64_w, i32_w]
                     rfl
                    refine take_ (i := 13) (N := some 88) (v := ?_) (a' := ?_) #[true, true, true, true, true, true, true, true, true, true, true, true, true, true, false, false, false] rfl rfl (take_ofW HT_.out HW_.out (by kernel_rfl)) (fun _ _ _ h => h) (Or.inl ⟨by rfl, ?_⟩) hHeld ?_ ?_; rotate_left
                    ·rintro w' ⟨s0, s1, s2⟩
                     go_simp
                     with_reducible rfl
                    rotate_left
                    ·simp only [Act.put, List.setIfInBounds_toArray, List.set_cons_zero, List.set_cons_succ, i64_w, i32_w]
                     rfl
                    refine one_ (i := 14) (N := some 89) #[true, true, true, true, true, true, true, true, true, true, true, true, true, true, true, false, false] rfl rfl (one_of HT_.out (by kernel_rfl)) (by decide) (fun K hK => ?_); refine goes_ Try.func202 (by kernel_rfl) rfl #[.slice (some ad253) (rd_L1 x6_3 x14_3).length c251_0, .slice Ao42 t248.length co42, .int .i64 (rd (rd_L1 x6_3 x14_3) x8_1)] (by rfl) rfl rfl mp_ ?_
                    with_reducible refine (signatoryref13_less.calls k3 _ _ (rd_L1 x6_3 x14_3) _ _ t248 (rd (rd_L1 x6_3 x14_3) x8_1) t254 _ ?side1 ?side2 ?side3 ?side4 A39.out).mono ?_
                    (case side1 => repeat (first | exact (cb_ HR251_0.out) | (with_reducible refine Kd.C_alloc ?_ _) | (with_reducible refine Kd.C_drewN ?_ _) | (with_reducible refine Kd.C_drew ?_)))
                    (case side2 => exact HC251_0.out)
                    (case side3 => repeat (first | exact (Kd.R_reads' HO_11.out).2.2 | (with_reducible refine Kd.C_alloc ?_ _) | (with_reducible refine Kd.C_drewN ?_ _) | (with_reducible refine Kd.C_drew ?_)))
                    (case side4 => exact (Kd.R_reads' HO_11.out).2.1)
                    rintro e w43 ⟨v255, rfl, ho0, hb⟩; have HS0_ := (hb.cell (World.block_lt_of_cell? _ _ (hHeld.1))).trans (hHeld.1); have HS1_ := (hb.cell (World.block_lt_of_cell? _ _ (hHeld.2.1))).trans (hHeld.2.1); have HS2_ := (hb.cell (World.block_lt_of_cell? _ _ (hHeld.2.2))).trans (hHeld.2.2); refine ⟨_, rfl, ?_⟩; have n0_ := Aside0.mk (Kd.N_elder' (rn_ HO_6.out) (Kd.R_base ho0) hb); have n1_ := Aside0.mk (Kd.R_elder' (rr_ HO_7.out) (Kd.R_base ho0) hb); have n2_ := Aside0.mk (Kd.R_elder' (rr_ HO_11.out) (Kd.R_base ho0) hb); have n3_ := Aside0.mk (Kd.V_elder' (rv_ HL251_0.out) (Kd.R_base ho0) hb); have n4_ := Aside0.mk (Kd.V_elder' (rv_ HL252_0.out) (Kd.R_base ho0) hb); have n5_ := Aside0.mk (Kd.R_lower (Kd.R_new' (Kd.R_new' (Kd.R_newM (M := fun k_ => (w.heap.size ≤ k_)) ho0 (below_size hb_) (fun k_ h_ => h_)) (Kd.R_lt (rr_ HO_7.out))) (Kd.R_lt (rr_ HO_11.out))) (below_size hb_)); have n6_ := Aside0.mk (Kd.C_below (cb_ HR251_0.out) hb); have n7_ := Aside0.mk (Kd.C_below (cb_ HR252_0.out) hb); have n8_ := Aside0.mk (below_step hb_ hb); clear HO_6; clear HO_7; clear HO_11; clear HL251_0; clear HL252_0; clear HR251_0; clear HR252_0; clear HB; have HO_6 := n0_; have HO_7 := n1_; have HO_11 := n2_; have HL251_0 := n3_; have HL252_0 := n4_; have HO256 := n5_; have HR251_0 := n6_; have HR252_0 := n7_; have HB := n8_; clear n0_ n1_ n2_ n3_ n4_ n5_ n6_ n7_ n8_; (try clear hb); (try clear hb2); (try clear hk); (try clear hi); (try clear ho0); have p40 : 0 ≤ (x14_3 : Int) := of_decide_eq_true as_; have q40 : (x14_3 : Int) < ((x6_3.length : Int) : Int) := of_decide_eq_true as_; obtain ⟨ce40, hcl40, hM40, hcc40, hfr40⟩ := Kd.N_elem HO_6.out [] (x14_3 : Int) p40 q40; obtain ⟨ua40_0, uc40_0, rfl, ul40_0, ge40_0⟩ := Kd.FK_slice_open hM40; have hx40_0 := hcc40 0 _ rfl; have hf40_0 := hfr40 0; (try simp only [show ((Kd.slice 3 (Kd.int .i64))).sz = 1 from rfl, Nat.mul_one, Nat.add_zero] at hx40_0); (try simp only [show ((Kd.slice 3 (Kd.int .i64))).sz = 1 from rfl, Nat.mul_one, Nat.add_zero] at hf40_0); clear hcl40 hcc40 hfr40 hM40; replace p40 := eq_true p40; replace q40 := eq_true q40; obtain ⟨Aq_, cq_, eq_⟩ := Kd.R_slice HO256.out; subst eq_; have HA_ := Kd.R_apart' (HO256.out) (Kd.N_typed HO_6.out) (by decide); have HX44 := Aside0.mk (show Kd.N (Kd.slice 3 (Kd.int .i64)) 23 _ w.heap.size (fun k_ => (P0_ k_ ∨ w.heap.size ≤ k_) ∧ some k_ ≠ (.slice Ao11 x7_1.length co11 : Value).ownBlock ∧ some k_ ≠ (.slice Ao42 t248.length co42 : Value).ownBlock ∧ some k_ ≠ ((.slice Aq_ t254.length cq_) : Value).ownBlock) (.slice (some ⟨go26, 0, none⟩) x6_3.length co31) x6_3 from (Kd.N_mono (HO_6.out) (fun k_ hk => ⟨hk.1.1, ⟨hk.1.2.1, ⟨hk.1.2.2, hk.2⟩⟩⟩))); replace HX44 := Aside0.mk (show Kd.N (Kd.slice 3 (Kd.int .i64)) 23 _ w.heap.size (fun k_ => (P0_ k_ ∨ w.heap.size ≤ k_) ∧ some k_ ≠ (.slice Ao11 x7_1.length co11 : Value).ownBlock ∧ some k_ ≠ (.slice Ao42 t248.length co42 : Value).ownBlock) (.slice (some ⟨go26, 0, none⟩) x6_3.length co31) x6_3 from Kd.N_mono HX44.out (fun k_ hk => ⟨hk.1, ⟨hk.2.1, hk.2.2.1⟩⟩)); obtain ⟨ce44, hcl44, hM44, hcc44, hfr44⟩ := Kd.N_elem HX44.out [] (x14_3 : Int) (of_decide_eq_true as_) (by have h_ : (x14_3 : Int) < ((x6_3.length : Int) : Int) := of_decide_eq_true as_; first | exact h_ | (have e_ := (Kd.N_reads' HO_6.out).1; omega) | simpa using h_); obtain ⟨ua44_0, uc44_0, rfl, ul44_0, ge44_0⟩ := Kd.FK_slice_open hM44; have HP44 := (Kd.N_seg HX44.out (x14_3 : Int) (of_decide_eq_true as_) (by have h_ : (x14_3 : Int) < ((x6_3.length : Int) : Int) := of_decide_eq_true as_; first | exact h_ | (have e_ := (Kd.N_reads' HO_6.out).1; omega) | simpa using h_) (seg := [(.slice Aq_ t254.length cq_)]) (j := 0) hcl44 hcc44 (show 1 ≤ 1 from by decide) (x' := t254) (Kd.FK_slice_mk (Kd.R_reads' (Kd.R_mono (ok' := (fun k_ => ((fun k_ => (P0_ k_ ∨ w.heap.size ≤ k_) ∧ some k_ ≠ (.slice Ao11 x7_1.length co11 : Value).ownBlock ∧ some k_ ≠ (.slice Ao42 t248.length co42 : Value).ownBlock)) k_ ∧ k_ ≠ go26)) HA_ (fun k_ hk => ⟨⟨(.inr (hk.1.1.1.1)), ⟨hk.1.1.2, hk.1.2⟩⟩, fun e_ => (hk.2) (by rw [e_]; rfl)⟩))).2.1 (Kd.R_F (Kd.R_mono (ok' := (fun k_ => ((fun k_ => (P0_ k_ ∨ w.heap.size ≤ k_) ∧ some k_ ≠ (.slice Ao11 x7_1.length co11 : Value).ownBlock ∧ some k_ ≠ (.slice Ao42 t248.length co42 : Value).ownBlock)) k_ ∧ k_ ≠ go26)) HA_ (fun k_ hk => ⟨⟨(.inr (hk.1.1.1.1)), ⟨hk.1.1.2, hk.1.2⟩⟩, fun e_ => (hk.2) (by rw [e_]; rfl)⟩)))) (fun _ hk => hk)).1; (try simp only [show ((Kd.slice 3 (Kd.int .i64))).sz = 1 from rfl, Nat.mul_one, Nat.add_zero] at HP44); rw [← Ny257.out] at HP44; have HQ44 := Aside0.mk HP44; clear hcl44 hcc44 hfr44 hM44 HP44; refine hK.out _ _ ⟨HS0_, HS1_, HS2_⟩ (fun hHeld => ?_); clear hK K; refine norm_ (a' := ?_) ?_ ?_; rotate_left
                    ·show Act.put _ (some 89) _ = _
                     simp only [Act.put, List.setIfInBounds_toArray, List.set_cons_zero, List.set_cons_succ, i64_w, i32_w]; rfl
                    refine pure_ (i := 15) (N := some 90) (v := ?_) (a' := ?_) #[true, true, true, true, true, true, true, true, true, true, true, true, true, true, true, true, false] rfl rfl (any_of HT_.out (by kernel_rfl)) (fun _ _ _ h => h) (Or.inl ⟨by rfl, ?_⟩) ?_ ?_; rotate_left
                    ·intro w'
                     go_simp
                     with_reducible rfl
                    rotate_left
                    ·simp only [Act.put, List.setIfInBounds_toArray, List.set_cons_zero, List.set_cons_succ, i64_w, i32_w]
                     rfl
                    refine last_ (i := 16) (N := none) #[true, true, true, true, true, true, true, true, true, true, true, true, true, true, true, true, true] rfl rfl (one_of HT_.out (by kernel_rfl)) (by decide) (fun K hK => ?_); refine skip_ (w1 := ?_) (by rfl) rfl ?_ ?_; rotate_left
                    ·go_simp
                     rfl
                    refine hK.out _ _ ?_; clear hK K; refine done_ (done_of HT_.out (by kernel_rfl)) ?_
                    try go_wp2
                    (try simp only [← hl6_3])
                    go_roundg k3
                    case measure => have := HK1.out; have := HJ9.out; have := HK3.out; omega
                    case rel => exact ⟨(y257), (wrap64 (x14_3 + 1)), rf_, H', ⟨by have := HK1.out; have := HJ9.out; have := HK3.out; omega⟩, ⟨by (try simp only [hl6_3]); (with_reducible repeat (first | apply Kd.N_alloc | apply Kd.N_drewN | apply Kd.N_drew)); exact HQ44.out⟩, ⟨by (try simp only [hl6_3]); (with_reducible repeat (first | apply Kd.R_alloc | apply Kd.R_drewN | apply Kd.R_drew)); exact Kd.R_mono (Kd.R_far (p := ⟨go26, (x14_3 : Int).toNat, none⟩) (Kd.R_types HO_7.out (Classical.choose_spec (Kd.N_typed HO_6.out go26 rfl)) (by decide)) (fun _ hk => hk.2) ((.slice Aq_ t254.length cq_))) (fun _ hk => ⟨hk.1.1.1, hk.1.1.2⟩)⟩, ⟨by (try simp only [hl6_3]); (with_reducible repeat (first | apply Kd.R_alloc | apply Kd.R_drewN | apply Kd.R_drew)); exact Kd.R_mono (Kd.R_far (p := ⟨go26, (x14_3 : Int).toNat, none⟩) (Kd.R_types HO_11.out (Classical.choose_spec (Kd.N_typed HO_6.out go26 rfl)) (by decide)) (fun _ hk => hk.2) ((.slice Aq_ t254.length cq_))) (fun _ hk => ⟨hk.1.1.1, hk.1.1.2⟩)⟩, ⟨by repeat (first | (with_reducible first | exact HB.out | apply below_alloc | apply pw_below_drewN | apply below_drew1 | refine below_set ?_ GB26.out) | exact HB.out)⟩⟩
                   ·rw [if_neg c38] at H
                    exact absurd H (by simp)
                  ·rw [if_neg c37] at H
                   exact absurd H (by simp)
                 ·rw [if_neg c36] at H
                  exact absurd H (by simp)
                ·rw [if_neg c35] at H
                 have c35b0 : decide (x14_3 < (x6_3.length : Int)) = false := decide_eq_false c35; clear c35
                 by_cases c45 : 0 ≤ (x7_1.length : Int)
                 ·rw [if_pos c45] at H
                  have c45b0 : decide (0 ≤ (x7_1.length : Int)) = true := decide_eq_true c45; have c45b1 : decide (0 ≤ x7_1.length) = true := decide_eq_true (by omega); clear c45
                  by_cases c46 : (x7_1.length : Int) < (x6_3.length : Int)
                  ·rw [if_pos c46] at H
                   have c46b0 : decide ((x7_1.length : Int) < (x6_3.length : Int)) = true := decide_eq_true c46; have c46b1 : decide (x7_1.length < x6_3.length) = true := decide_eq_true (Int.ofNat_lt.mp c46); clear c46
                   obtain ⟨y258, hy258⟩ : ∃ y_ : List (List Int), y_ = (x6_3.set ((x7_1.length : Int) : Int).toNat t248) := ⟨_, rfl⟩
                   replace H : (if x7_1.length < 17592186044416 then (signatoryref13_Reduced.l0 k3 a1 y258 (x7_1 ++ [x8_1]) (wrap64 (x8_1 + 1))) else (none)) = some (r1, r2) := by first | (rw [hy258]; with_reducible exact H) | (have H2_ := (Option.bind_some _ _).symm.trans H; rw [hy258]; with_reducible exact H2_) | (have H2_ := (Option.bind_some _ _).symm.trans H; with_reducible exact H2_) | with_reducible exact H | (rw [hy258]; exact H) | exact H
                   have Ny258 := Aside0.mk hy258; clear hy258
                   by_cases c48 : x7_1.length < 17592186044416
                   ·rw [if_pos c48] at H
                    have LMc48 := Aside0.mk c48; clear c48
                    obtain ⟨y259, hy259⟩ : ∃ y_ : List Int, y_ = (x7_1 ++ [x8_1]) := ⟨_, rfl⟩
                    replace H : (signatoryref13_Reduced.l0 k3 a1 y258 y259 (wrap64 (x8_1 + 1))) = some (r1, r2) := by first | (rw [hy259]; with_reducible exact H) | (have H2_ := (Option.bind_some _ _).symm.trans H; rw [hy259]; with_reducible exact H2_) | (have H2_ := (Option.bind_some _ _).symm.trans H; with_reducible exact H2_) | with_reducible exact H | (rw [hy259]; exact H) | exact H
                    have Ny259 := Aside0.mk hy259; clear hy259; have H' := Aside0.mk H; clear H; have p47 : 0 ≤ ((x7_1.length : Int) : Int) := of_decide_eq_true as_; have q47 : ((x7_1.length : Int) : Int) < ((x6_3.length : Int) : Int) := of_decide_eq_true as_; obtain ⟨ce47, hcl47, hM47, hcc47, hfr47⟩ := Kd.N_elem HO_6.out [] ((x7_1.length : Int) : Int) p47 q47; obtain ⟨ua47_0, uc47_0, rfl, ul47_0, ge47_0⟩ := Kd.FK_slice_open hM47; have hx47_0 := hcc47 0 _ rfl; have hf47_0 := hfr47 0; (try simp only [show ((Kd.slice 3 (Kd.int .i64))).sz = 1 from rfl, Nat.mul_one, Nat.add_zero] at hx47_0); (try simp only [show ((Kd.slice 3 (Kd.int .i64))).sz = 1 from rfl, Nat.mul_one, Nat.add_zero] at hf47_0); clear hcl47 hcc47 hfr47 hM47; replace p47 := eq_true p47; replace q47 := eq_true q47; obtain ⟨Aq_, cq_, eq_⟩ := Kd.R_slice HO_11.out; subst eq_; have HA_ := Kd.R_apart' (HO_11.out) (Kd.N_typed HO_6.out) (by decide); have HX49 := Aside0.mk (show Kd.N (Kd.slice 3 (Kd.int .i64)) 23 wr w.heap.size (fun k_ => (P0_ k_ ∨ w.heap.size ≤ k_) ∧ some k_ ≠ (.slice Ao11 x7_1.length co11 : Value).ownBlock) (.slice (some ⟨go26, 0, none⟩) x6_3.length co31) x6_3 from (by (with_reducible repeat (first | apply Kd.N_alloc | apply Kd.N_drewN | apply Kd.N_drew)); exact Kd.N_mono HO_6.out (fun _ hk => ⟨hk.1, hk.2.1⟩))); obtain ⟨ce49, hcl49, hM49, hcc49, hfr49⟩ := Kd.N_elem HX49.out [] ((x7_1.length : Int) : Int) (of_decide_eq_true as_) (by have h_ : ((x7_1.length : Int) : Int) < ((x6_3.length : Int) : Int) := of_decide_eq_true as_; first | exact h_ | (have e_ := (Kd.N_reads' HO_6.out).1; omega) | simpa using h_); obtain ⟨ua49_0, uc49_0, rfl, ul49_0, ge49_0⟩ := Kd.FK_slice_open hM49; have HP49 := Kd.N_seg HX49.out ((x7_1.length : Int) : Int) (of_decide_eq_true as_) (by have h_ : ((x7_1.length : Int) : Int) < ((x6_3.length : Int) : Int) := of_decide_eq_true as_; first | exact h_ | (have e_ := (Kd.N_reads' HO_6.out).1; omega) | simpa using h_) (seg := [(.slice Aq_ t248.length cq_)]) (j := 0) hcl49 hcc49 (show 1 ≤ 1 from by decide) (x' := t248) (Kd.FK_slice_mk (Kd.R_reads' (Kd.R_mono (ok' := (fun k_ => ((fun k_ => (P0_ k_ ∨ w.heap.size ≤ k_) ∧ some k_ ≠ (.slice Ao11 x7_1.length co11 : Value).ownBlock)) k_ ∧ k_ ≠ go26)) HA_ (fun k_ hk => ⟨⟨(.inr (hk.1.1)), hk.1.2⟩, fun e_ => (hk.2) (by rw [e_]; rfl)⟩))).2.1 (Kd.R_F (Kd.R_mono (ok' := (fun k_ => ((fun k_ => (P0_ k_ ∨ w.heap.size ≤ k_) ∧ some k_ ≠ (.slice Ao11 x7_1.length co11 : Value).ownBlock)) k_ ∧ k_ ≠ go26)) HA_ (fun k_ hk => ⟨⟨(.inr (hk.1.1)), hk.1.2⟩, fun e_ => (hk.2) (by rw [e_]; rfl)⟩)))) (fun _ hk => hk); have hx49_0 := hcc49 0 _ rfl; (try simp only [show ((Kd.slice 3 (Kd.int .i64))).sz = 1 from rfl, Nat.mul_one, Nat.add_zero] at hx49_0); have hf49_0 := hfr49 0; (try simp only [show ((Kd.slice 3 (Kd.int .i64))).sz = 1 from rfl, Nat.mul_one, Nat.add_zero] at hf49_0); clear hcl49 hcc49 hfr49 hM49; (try simp only [show ((Kd.slice 3 (Kd.int .i64))).sz = 1 from rfl, Nat.mul_one, Nat.add_zero] at HP49); (try simp only [show ((Kd.slice 3 (Kd.int .i64))).sz = 1 from rfl, Nat.mul_one, Nat.add_zero] at HP49); (try simp only [Go.IntWalk.toNatUp] at hx49_0); (try simp only [Go.IntWalk.toNatUp] at hf49_0); go_wp2_with (first | ((with_reducible refine gate_store (t := 23) (p := 94) rfl ?_); refine store_event (t := 23) (p := 94) (v := ?vo_w50) (w1 := (wr.setCell ⟨go26, ((x7_1.length : Int) : Int).toNat, none⟩ ((.slice Aq_ t248.length cq_)))) ?hg ?ho ?hn ?hr ?_; (case ho => rfl); (case hg => rfl); (case hn => rfl); (case hr => first | (go_simp; done) | (go_simp; rfl)); intro w50 hw; have hg : wr.grownBy w50 (some go26) := (by rw [hw]; exact HP49.2); have hp_ : Kd.N (Kd.slice 3 (Kd.int .i64)) 23 w50 w.heap.size (fun k_ => (P0_ k_ ∨ w.heap.size ≤ k_) ∧ some k_ ≠ (.slice Ao11 x7_1.length co11 : Value).ownBlock) (.slice (some ⟨go26, 0, none⟩) x6_3.length co31) y258 := (by rw [hw, Ny258.out]; exact HP49.1); clear HP49; have n0_ := Aside0.mk (hp_); have n1_ := Aside0.mk (Kd.R_over' (v := (.slice (some ⟨go26, 0, none⟩) x6_3.length co31)) (rr_ HO_7.out) (Kd.N_typed HO_6.out) (by decide) hg); have n2_ := Aside0.mk ((by rw [hw]; exact below_set (HB.out) GB26.out : Below w.heap.size w w50)); clear HO_6; clear HO_7; clear HB; clear HO_11; have HO_6 := n0_; have HO_7 := n1_; have HB := n2_; clear n0_ n1_ n2_; clear hg hw hp_) | ((with_reducible refine gate_builtin (b := .append) (xs := #[.tmp 95, .tmp 97]) rfl ?_); at_builtin; refine Kd.R_append (Kd.int .i64) (w0 := w) w.heap.size rfl (.tmp 95) (.tmp 97) 23 3 (.int .i64 0) 8 rfl Try.underlying23 info3 rfl (by decide) (by omega) (.slice Ao11 x7_1.length co11) x7_1 x8_1 [.int .i64 x8_1] (fun k_ => (w.heap.size ≤ k_)) (fun _ => False) rfl rfl ?aP (fun _ hk => hk.elim) ?aF ?aO ?aB ?aS ?aL ?_; (case aP => exact rfl); (case aB => exact hb_); (case aF => exact (fun k_ hk => (Nat.le_trans (below_size hb_) hk))); (case aO => exact (by (with_reducible repeat (first | apply Kd.R_alloc | apply Kd.R_drewN | apply Kd.R_drew)); exact Kd.R_mono HO_7.out (fun _ hk => hk.1))); (case aS => exact (below_size hb_)); (case aL => have := LMc48.out; omega); intro v260 w51 ho hb hg hat; rw [← Ny259.out] at ho; have n0_ := Aside0.mk (Kd.N_afterv (ok := (fun k_ => (P0_ k_ ∨ w.heap.size ≤ k_))) (rn_ HO_6.out) hg hat); have n1_ := Aside0.mk (hb); have n2_ := Aside0.mk (ho); clear HO_6; clear HB; clear HO_7; have HO_6 := n0_; have HB := n1_; have HO261 := n2_; clear n0_ n1_ n2_; clear ho hb hg hat)); (try simp only [← hl6_3])
                    go_roundg k3
                    case measure => have := HK1.out; have := HJ9.out; have := HK3.out; omega
                    case rel => exact ⟨(y258), (y259), (wrap64 (x8_1 + 1)), rf_, H', ⟨by have := HK1.out; have := HJ9.out; have := HK3.out; omega⟩, ⟨by (try simp only [hl6_3]); (with_reducible repeat (first | apply Kd.N_alloc | apply Kd.N_drewN | apply Kd.N_drew)); exact HO_6.out⟩, ⟨by (try simp only [hl6_3]); (with_reducible repeat (first | apply Kd.R_alloc | apply Kd.R_drewN | apply Kd.R_drew)); exact HO261.out⟩, ⟨hb_⟩⟩
                   ·rw [if_neg c48] at H
                    exact absurd H (by simp)
                  ·rw [if_neg c46] at H
                   exact absurd H (by simp)
                 ·rw [if_neg c45] at H
                  exact absurd H (by simp)
             ·rw [if_neg c28] at H
              exact absurd H (by simp)
            ·rw [if_neg c27] at H
             exact absurd H (by simp)
           ·rw [if_neg c25] at H
            exact absurd H (by simp)
          ·rw [if_neg c24] at H
           exact absurd H (by simp)
         ·rw [if_neg c23] at H
          exact absurd H (by simp)
        ·rw [if_neg c22] at H
         exact absurd H (by simp)
    ·rw [if_neg c9] at H
     have c9b0 : decide (x8_1 < a1) = false := decide_eq_false c9; clear c9; simp only [Option.some.injEq, Prod.mk.injEq] at H; obtain ⟨rfl, rfl⟩ := H; go_wp2
     go_ret2
     exact ⟨_, _, by first | rfl | (simp [errW_none, errW_some] <;> rfl) | (simp [*, errW_none, errW_some] <;> rfl), rn_ HO_6.out, rr_ HO_7.out, by repeat (first | (with_reducible first | exact HB.out | apply below_alloc | apply pw_below_drewN | apply below_drew1) | exact HB.out)⟩
 ·rw [if_neg c3] at H
  exact absurd H (by simp)
end Go.Proofs.Ytdbamhckgaoibaa.P
namespace Go.Proofs.Ytdbamhckgaoibaa.P
open Go.RowKit Go.Proofs.YtdbamhckgaoibaaW.PrintWords Go.Proofs.YtdbamhckgaoibaaW.PrintLast Go.Proofs.YtdbamhckgaoibaaW.PrintMore
theorem inv09 (a : Int) (k : Nat) (hk : 40 ≤ k) (h : a % 1073741789 ≠ 0) : signatoryref09_Inverse.f k a = some (Sig.finv a, 0) := by
  unfold signatoryref09_Inverse.f signatoryref09_power.f
  obtain ⟨k, rfl⟩ : ∃ k', k = k' + 30 + 1 := ⟨k - 31, by omega⟩
  have e := pow09_l0 30 Sig.eInv a 1 k (by decide) (by decide); have e1 : ((Sig.eInv : Nat) : Int) = 1073741787 := rfl; rw [e1, show (1 : Int) % 1073741789 = 1 from rfl, Int.one_mul] at e; rw [mod09, Option.bind_some, if_neg h, e, Option.bind_some]; rfl
theorem red_l1 (many : Int) (t : List (List Int)) (ps : List Int) (c n : Nat) (r : Int) (hR : Sig.Rect t n) (hc : c < n) (hn : t.length < 1000000) (K : Nat) : ∀ (d j : Nat), t.length - j = d → j ≤ t.length →
    ∃ k', K ≤ k' ∧ signatoryref13_Reduced.l1 (K + d + 1) many t ps (c : Int) r (j : Int) = signatoryref13_Reduced.j2 k' many t ps (c : Int) r ((Sig.find t c j : Nat) : Int) := by
  intro d
  induction d with
  | zero =>
    intro j hd hj; refine ⟨K, Nat.le_refl _, ?_⟩
    obtain rfl : j = t.length := by omega
    rw [signatoryref13_Reduced.l1, if_neg (by omega), Sig.find_stop (fun h => absurd h (by omega))]
  | succ d ih =>
    intro j hd hj
    have hlt : j < t.length := by omega
    have hl : (rd_L1 t (j : Int)).length = n := by rw [rd_L1_nat]; exact (hR _ (Sig.getD_mem hlt)).1
    have he : rd (rd_L1 t (j : Int)) (c : Int) = Sig.ent t j c := by rw [rd_L1_nat, rd_nat]; rfl
    rw [signatoryref13_Reduced.l1, if_pos (by omega), if_pos (by omega), if_pos (by omega), hl, if_pos (by omega), he]
    by_cases h0 : Sig.ent t j c = 0
    · obtain ⟨k', h1, h2⟩ := ih (j + 1) (by omega) (by omega)
      refine ⟨k', h1, ?_⟩; rw [if_pos h0, wrap_succ (by omega), ← Nat.add_assoc, h2, Sig.find_step hlt h0]
    · refine ⟨K + (d + 1), by omega, ?_⟩
      rw [if_neg h0, Sig.find_stop (fun _ => h0)]
theorem take_set_drop {α : Type} (l m : List α) (x : α) {j : Nat} (hl : j < l.length) (hm : j < m.length) (hx : m[j] = x) : (m.take j ++ l.drop j).set j x = m.take (j + 1) ++ l.drop (j + 1) := by
  have h1 : (m.take j).length = j := by rw [List.length_take]; omega
  rw [List.take_succ_eq_append_getElem hm, List.set_append_right _ _ (by omega), h1, Nat.sub_self, List.drop_eq_getElem_cons hl, List.set_cons_zero, List.append_assoc, hx]; rfl
theorem red_l2 (many : Int) (t : List (List Int)) (ps : List Int) (c n : Nat) (r : Nat) (own : List Int) (hR : ∀ row ∈ t, row.length = n) (hown : own.length = n) (hc : c < n) (hr : r < t.length) (hn : t.length < 1000) (hnn : n ≤ 1000) (hps : ps.length < 1000) (K : Nat) (hK : 2000 ≤ K) : ∀ (d j : Nat) (u : List (List Int)), t.length - j = d → j ≤ t.length → u = (t.map fun row => Sig.less row own (row.getD c 0)).take j ++ t.drop j →
    signatoryref13_Reduced.l2 (K + d + 1) many u ps (c : Int) (r : Int) own (j : Int) = signatoryref13_Reduced.l0 K many ((t.map fun row => Sig.less row own (row.getD c 0)).set r own) (ps ++ [(c : Int)]) (wrap64 ((c : Int) + 1)) := by
  intro d
  induction d with
  | zero =>
    intro j u hd hj hu
    obtain rfl : j = t.length := by omega
    rw [List.drop_length, List.append_nil, List.take_of_length_le (by simp)] at hu; subst hu; rw [signatoryref13_Reduced.l2, if_neg (by simp), if_pos (by omega), if_pos (by simp; omega), if_pos (by omega), Int.toNat_natCast]
  | succ d ih =>
    intro j u hd hj hu
    have hlt : j < t.length := by omega
    have hul : u.length = t.length := by rw [hu, List.length_append, List.length_take, List.length_map, List.length_drop]; omega
    have huj : u.getD j [] = t[j] := by
      rw [hu, List.getD_eq_getElem?_getD, List.getElem?_append_right (by rw [List.length_take, List.length_map]; omega), List.length_take, List.length_map, Nat.min_eq_left (by omega), Nat.sub_self, List.getElem?_drop, Nat.add_zero, List.getElem?_eq_getElem hlt]; rfl
    have hlj : t[j].length = n := hR _ (List.getElem_mem hlt); rw [signatoryref13_Reduced.l2, if_pos (by omega), if_pos (by omega), if_pos (by omega), rd_L1_nat, huj, if_pos (by omega), rd_nat, less13_math _ _ _ (by omega) (by omega) _ (by omega), Option.bind_some, wrap_succ (by omega), ← Nat.add_assoc, Int.toNat_natCast]; refine ih (j + 1) _ (by omega) (by omega) ?_; rw [hu]; exact take_set_drop t (t.map fun row => Sig.less row own (row.getD c 0)) _ hlt (by rw [List.length_map]; exact hlt) (by rw [List.getElem_map])
theorem red_round (many : Nat) (t : List (List Int)) (ps : List Nat) (c n : Nat) (hR : Sig.Rect t n) (hc : c < n) (hm : c < many) (hp : ps.length ≤ t.length) (hn : t.length ≤ 100) (hnn : n ≤ 100) (K : Nat) (hK : 3000 ≤ K) :
    ∃ k', K ≤ k' ∧ signatoryref13_Reduced.l0 (K + 300) (many : Int) t (ps.map fun (x : Nat) => (x : Int)) (c : Int) = signatoryref13_Reduced.l0 k' (many : Int) (Sig.step (t, ps) c).1 ((Sig.step (t, ps) c).2.map fun (x : Nat) => (x : Int)) ((c + 1 : Nat) : Int) := by
  obtain ⟨k', h1, h2⟩ := red_l1 many t (ps.map fun (x : Nat) => (x : Int)) c n (ps.length : Int) hR hc (by omega) (K + 298 - (t.length - ps.length)) (t.length - ps.length) ps.length rfl hp; rw [show K + 298 - (t.length - ps.length) + (t.length - ps.length) + 1 = K + 299 by omega] at h2; rw [show K + 300 = K + 299 + 1 by omega, signatoryref13_Reduced.l0, if_pos (by omega), List.length_map, h2]
  obtain ⟨k', rfl⟩ : ∃ k'', k' = k'' + 1 := ⟨k' - 1, by omega⟩
  obtain ⟨f1, f2, f3, f4⟩ := Sig.find_spec t c _ ps.length rfl hp; rw [signatoryref13_Reduced.j2]; unfold Sig.step; simp only
  by_cases hf : Sig.find t c ps.length < t.length
  · have he := f3 hf
    have hinf := (hR _ (Sig.getD_mem hf)).2; have hl : (t.getD (Sig.find t c ps.length) []).length = n := (hR _ (Sig.getD_mem hf)).1; have hent : 0 ≤ Sig.ent t (Sig.find t c ps.length) c ∧ Sig.ent t (Sig.find t c ps.length) c < 1073741789 := Sig.ent_inF hR _ _; have hfin : 0 ≤ Sig.finv (Sig.ent t (Sig.find t c ps.length) c) ∧ Sig.finv (Sig.ent t (Sig.find t c ps.length) c) < 1073741789 := Sig.emod_range _; rw [if_neg (by omega), if_pos (by omega), if_pos (by omega), if_pos (by omega), if_pos (by omega), if_pos (by omega), rd_L1_nat, hl, if_pos (by omega), rd_nat, if_pos hf]; rw [show (t.getD (Sig.find t c ps.length) []).getD c 0 = Sig.ent t (Sig.find t c ps.length) c from rfl, inv09 _ _ (by omega) (by omega), Option.bind_some]; dsimp only; rw [times13_math _ _ hfin.1 hfin.2 (by omega) _ (by omega), Option.bind_some, rd_L1_nat, Int.toNat_natCast]; refine ⟨k' - t.length - 1, by omega, ?_⟩
    have e := red_l2 (many : Int) (t.set (Sig.find t c ps.length) (t.getD ps.length [])) (ps.map fun (x : Nat) => (x : Int)) c n ps.length (Sig.times (t.getD (Sig.find t c ps.length) []) (Sig.finv (Sig.ent t (Sig.find t c ps.length) c))) (fun row hrow => by
      rcases List.mem_or_eq_of_mem_set hrow with h | h
      · exact (hR _ h).1
      · rw [h]; exact (hR _ (Sig.getD_mem (by omega))).1) (by unfold Sig.times; rw [List.length_map, hl]) hc (by rw [List.length_set]; omega) (by rw [List.length_set]; omega) (by omega) (by rw [List.length_map]; omega) (k' - t.length - 1) (by omega) t.length 0 (t.set (Sig.find t c ps.length) (t.getD ps.length [])) (by rw [List.length_set]; omega) (by omega) (by rw [List.take_zero, List.drop_zero, List.nil_append])
    rw [show k' - t.length - 1 + t.length + 1 = k' by omega] at e; rw [show ((0 : Nat) : Int) = 0 from rfl] at e; rw [e, wrap_succ (by omega), List.map_append]; rfl
  · have hfe : Sig.find t c ps.length = t.length := by omega
    refine ⟨k', by omega, ?_⟩; rw [if_pos (by omega), wrap_succ (by omega), if_neg hf]
theorem red_l0 (t : List (List Int)) (n many : Nat) (hR : Sig.Rect t n) (hm : many ≤ n) (hn : t.length ≤ 100) (hnn : n ≤ 100) : ∀ (d c : Nat), many - c = d → c ≤ many → ∀ K, 3000 + 300 * d < K →
    signatoryref13_Reduced.l0 K (many : Int) (Sig.reduce t c).1 ((Sig.reduce t c).2.map fun (x : Nat) => (x : Int)) (c : Int) = some ((Sig.reduce t many).1, (Sig.reduce t many).2.map fun (x : Nat) => (x : Int)) := by
  intro d
  induction d with
  | zero =>
    intro c hd hc K hK
    obtain rfl : c = many := by omega
    obtain ⟨K, rfl⟩ : ∃ k', K = k' + 1 := ⟨K - 1, by omega⟩
    rw [signatoryref13_Reduced.l0, if_neg (by omega)]
  | succ d ih =>
    intro c hd hc K hK; have hI := Sig.inv_reduce hR c (by omega)
    obtain ⟨K, rfl⟩ : ∃ k', K = k' + 300 := ⟨K - 300, by omega⟩
    obtain ⟨k', h1, h2⟩ := red_round many (Sig.reduce t c).1 (Sig.reduce t c).2 c n hI.1.rect (by omega) (by omega) hI.1.few (by rw [hI.2]; exact hn) hnn K (by omega); rw [h2, ← Sig.reduce_succ]; exact ih (c + 1) (by omega) (by omega) k' (by omega)
end Go.Proofs.Ytdbamhckgaoibaa.P
namespace Go.Proofs.Ytdbamhckgaoibaa.P
open Go.RowKit Go.Proofs.YtdbamhckgaoibaaW.PrintWords Go.Proofs.YtdbamhckgaoibaaW.PrintLast Go.Proofs.YtdbamhckgaoibaaW.PrintMore
set_option linter.unusedVariables false
structure Sl {α : Type} (d : Kd α) (w : World) (A : Option Addr) (c : Nat) (xs : List α) : Prop where
  le : xs.length ≤ c
  rd : Kd.C d w A xs.length xs
theorem Sl.below {α : Type} {d : Kd α} {w w' : World} {A : Option Addr} {c : Nat} {xs : List α} (h : Sl d w A c xs) (hb : Below w.heap.size w w') : Sl d w' A c xs := ⟨h.le, Kd.C_below h.rd hb⟩
theorem Sl.alloc {α : Type} {d : Kd α} {w : World} {A : Option Addr} {c : Nat} {xs : List α} (h : Sl d w A c xs) (o : Obj) : Sl d (w.alloc o) A c xs := h.below ((Below.refl _ _).alloc (Nat.le_refl _) o)
theorem Sl.none_ {α : Type} (d : Kd α) (w : World) : Sl d w none 0 [] := ⟨Nat.le_refl _, rfl, Nat.zero_le _, fun h => absurd h (by simp)⟩
theorem Sl.ofR {α : Type} {d : Kd α} {e : Nat} {w : World} {base : Nat} {ok : Nat → Prop} {v : Value} {xs : List α} (h : Kd.R d e w base ok v xs) : ∃ A c, v = .slice A xs.length c ∧ Sl d w A c xs := by
  obtain ⟨A, c, e, h1, h2⟩ := Kd.R_reads h; exact ⟨A, c, e, h1, h2⟩
theorem Sl.ofN {α : Type} {d : Kd α} {e : Nat} {w : World} {base : Nat} {ok : Nat → Prop} {v : Value} {xs : List α} (h : Kd.N d e w base ok v xs) : ∃ A c, v = .slice A xs.length c ∧ Sl d w A c xs := by
  obtain ⟨A, c, rfl⟩ := Kd.N_slice h; exact ⟨A, c, rfl, (Kd.N_reads' h).2.1, (Kd.N_reads' h).2.2⟩
theorem Sl.V {α : Type} {d : Kd α} {w : World} {A : Option Addr} {c : Nat} {xs : List α} (h : Sl d w A c xs) (hd : Kd.Heap d) (e base : Nat) : Kd.V d e w base (fun k => k < w.heap.size) (.slice A xs.length c) xs := Kd.V_mk h.le (Kd.C_F hd h.rd)
theorem cell_on {W W' : World} {b j : Nat} {v : Value} (h : W.cell? ⟨b, j, none⟩ = some v ∧ b < W.heap.size) (hb : Below W.heap.size W W') : W'.cell? ⟨b, j, none⟩ = some v ∧ b < W'.heap.size := ⟨(hb.cell (p := ⟨b, j, none⟩) h.2).trans h.1, Nat.lt_of_lt_of_le h.2 hb.size⟩
theorem below_alloc1 (W : World) (o : Obj) : Below W.heap.size W (W.alloc o) := (Below.refl _ _).alloc (Nat.le_refl _) o
theorem Sl.lit {α : Type} {d : Kd α} (w : World) (t : TypeId) (xs : List α) (css : List (List Value)) (hl : css.length = xs.length) (hk : ∀ (i : Nat) (x : α) (cs : List Value), xs[i]? = some x → css[i]? = some cs → d.K (w.alloc (.cells css.flatten.toArray t)) x cs) (hm : xs.length ≤ 1000000) :
    Sl d (w.alloc (.cells css.flatten.toArray t)) (some ⟨w.heap.size, 0, none⟩) xs.length xs := by
  refine ⟨Nat.le_refl _, rfl, by omega, fun _ => ⟨_, rfl, fun j p hj => ?_⟩⟩; have hjl := (List.getElem?_eq_some_iff.1 hj).1
  have hjc : j < css.length := by omega
  refine ⟨css[j], d.K_len (hk j p _ hj (List.getElem?_eq_getElem hjc)), hk j p _ hj (List.getElem?_eq_getElem hjc), fun i u hu => ?_⟩
  have hsz : ∀ cs ∈ css, cs.length = d.sz := fun cs hc => by
    obtain ⟨i, hi, rfl⟩ := List.getElem_of_mem hc; exact d.K_len (hk i _ _ (List.getElem?_eq_getElem (by omega)) (List.getElem?_eq_getElem hi))
  have key : ∀ (l : List (List Value)) (j : Nat) (hj : j < l.length), (∀ cs ∈ l, cs.length = d.sz) → ∀ i u, l[j][i]? = some u → l.flatten[j * d.sz + i]? = some u := by
    intro l
    induction l with
    | nil => intro j hj; exact absurd hj (Nat.not_lt_zero j)
    | cons a l ih =>
      intro j hj hs i u hu; have ha := hs a List.mem_cons_self; rw [List.flatten_cons]
      cases j with
      | zero =>
        have hu : a[i]? = some u := hu; have hi := (List.getElem?_eq_some_iff.1 hu).1; rw [Nat.zero_mul, Nat.zero_add, List.getElem?_append_left hi]; exact hu
      | succ j =>
        rw [List.getElem?_append_right (by rw [ha, Nat.succ_mul]; omega), show (j + 1) * d.sz + i - a.length = j * d.sz + i by rw [ha, Nat.succ_mul]; omega]; exact ih j (by simpa using hj) (fun cs hc => hs cs (List.mem_cons_of_mem _ hc)) i u hu
  have hf := key css j hjc hsz i u hu
  have hp : Addr.add ⟨w.heap.size, 0, none⟩ (j * d.sz + i) = ⟨w.heap.size, j * d.sz + i, none⟩ := by
    generalize j * d.sz + i = n; unfold Addr.add
    by_cases h0 : n = 0
    · simp [h0]
    · simp [h0]
  rw [hp]; simp only [World.cell?]; rw [World.alloc_heap_new]
  simpa using hf
theorem Sl.ints (w : World) (t : TypeId) (xs : List Int) (hm : xs.length ≤ 1000000) : Sl (Kd.int .i64) (w.alloc (.cells ((xs.map fun x => [Value.int .i64 x]).flatten.toArray) t)) (some ⟨w.heap.size, 0, none⟩) xs.length xs := by
  refine Sl.lit w t xs (xs.map fun x => [Value.int .i64 x]) (by simp) (fun i x cs hx hc => ?_) hm; rw [List.getElem?_map, hx] at hc; exact (Option.some.inj hc).symm
theorem Sl.shares (w : World) (t : TypeId) (xs : List S38) (hm : xs.length ≤ 1000000) : Sl k38 (w.alloc (.cells ((xs.map fun x => [Value.int .i64 x.f0, Value.int .i64 x.f1]).flatten.toArray) t)) (some ⟨w.heap.size, 0, none⟩) xs.length xs := by
  refine Sl.lit w t xs (xs.map fun x => [Value.int .i64 x.f0, Value.int .i64 x.f1]) (by simp) (fun i x cs hx hc => ?_) hm; rw [List.getElem?_map, hx] at hc; rw [← Option.some.inj hc]; exact k38_mk _ _
structure SlAt {α : Type} (d : Kd α) (w : World) (v : Value) (xs : List α) : Prop where
  at_ : ∃ A c, v = .slice A xs.length c ∧ Sl d w A c xs
theorem SlAt.mk_ {α : Type} {d : Kd α} {w : World} {A : Option Addr} {c : Nat} {xs : List α} (h : Sl d w A c xs) : SlAt d w (.slice A xs.length c) xs := ⟨A, c, rfl, h⟩
inductive SlsAt {α : Type} (d : Kd α) (w : World) : List Value → List (List α) → Prop where
  | nil : SlsAt d w [] []
  | cons {v : Value} {x : List α} {vs : List Value} {xs : List (List α)} (h : SlAt d w v x) (t : SlsAt d w vs xs) : SlsAt d w (v :: vs) (x :: xs)
theorem SlsAt.get {α : Type} {d : Kd α} {w : World} : ∀ {vs : List Value} {xs : List (List α)}, SlsAt d w vs xs → vs.length = xs.length ∧ ∀ (i : Nat) (v : Value) (x : List α), vs[i]? = some v → xs[i]? = some x → SlAt d w v x
  | _, _, .nil => ⟨rfl, fun i v x h => by simp at h⟩
  | _, _, .cons h t => by
    obtain ⟨h1, h2⟩ := SlsAt.get t; refine ⟨by simp [h1], fun i v x hv hx => ?_⟩
    cases i with
    | zero =>
      simp only [List.getElem?_cons_zero, Option.some.injEq] at hv hx; subst hv hx; exact h
    | succ i => exact h2 i v x (by simpa using hv) (by simpa using hx)
theorem Sl.rows {α : Type} {d : Kd α} (w : World) (t e : TypeId) (vs : List Value) (xs : List (List α)) (h : SlsAt d w vs xs) (hm : xs.length ≤ 1000000) :
    Sl (Kd.slice e d) (w.alloc (.cells ((vs.map fun v => [v]).flatten.toArray) t)) (some ⟨w.heap.size, 0, none⟩) xs.length xs := by
  obtain ⟨h1, h2⟩ := h.get; refine Sl.lit w t xs (vs.map fun v => [v]) (by simp [h1]) (fun i x cs hx hc => ?_) hm; rw [List.getElem?_map] at hc; obtain ⟨v, hv, rfl⟩ := Option.map_eq_some_iff.1 hc; obtain ⟨A, c, rfl, hs⟩ := (h2 i v x hv hx).at_; have := hs.alloc (.cells ((vs.map fun v => [v]).flatten.toArray) t); exact ⟨A, c, rfl, this.le, this.rd⟩
end Go.Proofs.Ytdbamhckgaoibaa.P
namespace Go.Proofs.Ytdbamhckgaoibaa.P
open Go.RowKit Go.Proofs.YtdbamhckgaoibaaW.PrintWords Go.Proofs.YtdbamhckgaoibaaW.PrintLast Go.Proofs.YtdbamhckgaoibaaW.PrintMore
set_option linter.unusedVariables false
def signatoryref13_RedS.f (l0 : List (List Int)) (a1 : Int) : Option (List (List Int) × List Int) := signatoryref13_Reduced.f 100000 l0 a1
theorem signatoryref13_RedS.calls (A0 : Option Addr) (c0 : Nat) (l0 : List (List Int)) (a1 : Int) (r1 : List (List Int)) (r2 : List Int) (w : World) (hr0 : Kd.C (Kd.slice 3 (Kd.int .i64)) w A0 l0.length l0) (hc0 : l0.length ≤ c0) (h : signatoryref13_RedS.f l0 a1 = some (r1, r2)) :
    Calls Try.prog 174 #[.slice A0 l0.length c0, .int .i64 a1] w fun e w' => ∃ v0_ v1_ : Value, e = .returned (.tuple #[v0_, v1_]) ∧ Kd.N (Kd.slice 3 (Kd.int .i64)) 23 w' w.heap.size (fun k_ => some k_ ≠ (v1_ : Value).ownBlock) v0_ r1 ∧ Kd.R (Kd.int .i64) 3 w' w.heap.size (fun _ => True) v1_ r2 ∧ Below w.heap.size w w' := by
  refine (signatoryref13_Reduced.calls 100000 (fun k => k < w.heap.size) A0 c0 l0 a1 r1 r2 w (Sl.V ⟨hc0, hr0⟩ (Kd.heap_slice 3 (Kd.heap_int .i64)) _ _) h).mono ?_; rintro e w' ⟨v0, v1, rfl, g0, g1, hb⟩; exact ⟨v0, v1, rfl, Kd.N_mono g0 (fun k hk => hk.2), Kd.R_mono g1 (fun _ _ => trivial), hb⟩
end Go.Proofs.Ytdbamhckgaoibaa.P
