/- A part of the proof of DealingSpec: The calls of signatoryref34.Few, signatoryref34.Number, signatoryref34.power, signatoryref34.Commits, signatoryref34.public, signatoryref34.Public, signatoryref; The reference's Public and Fits, in plain words.; dealing.Recover: the walk.; dealing.Public, Fits and Deal in the printer's form. -/
import Derived.Test.YtdbamhckgaoibaaZDSP8
namespace Go.Proofs.Ytdbamhckgaoibaa.P
open Go.RowKit Go.Proofs.YtdbamhckgaoibaaW.PrintWords Go.Proofs.YtdbamhckgaoibaaW.PrintLast Go.Proofs.YtdbamhckgaoibaaW.PrintMore
attribute [local go_sem] max2_int min2_int max_two min_two max_three min_three max_four min_four
set_option linter.unusedVariables false
set_option linter.unusedSimpArgs false
mutual
def signatoryref34_Few.j0 : Nat → Bool → List (List Int) → List Int → Option (Bool)
 | 0, _, _, _ => none
 | k + 1, x25, x399000, x399001 => if x25 = true then (some false) else (signatoryref34_Few.l0 k 0 x399000 x399001)
def signatoryref34_Few.l0 : Nat → Int → List (List Int) → List Int → Option (Bool)
 | 0, _, _, _ => none
 | k + 1, x3, x399000, x399001 => if x3 < (x399000.length : Int) then (if 0 ≤ x3 then (if ((rd_L1 x399000 x3).length : Int) > 16 then (if ((rd_L1 x399000 x3).length : Int) ≤ 64 then (some false) else (if ((rd_L1 x399000 x3).length : Int) > 80 then (some false) else (signatoryref34_Few.l0 k (wrap64 (x3 + 1)) x399000 x399001))) else (if ((rd_L1 x399000 x3).length : Int) > 80 then (some false) else (signatoryref34_Few.l0 k (wrap64 (x3 + 1)) x399000 x399001))) else (none)) else (some true)
end
def signatoryref34_Few.f (k : Nat) (l0_0 : List (List Int)) (l0_1 : List Int) : Option (Bool) := if (l0_0.length : Int) > 16 then (if (l0_0.length : Int) ≤ 64 then (signatoryref34_Few.j0 k true l0_0 l0_1) else (if (l0_0.length : Int) > 80 then (signatoryref34_Few.j0 k true l0_0 l0_1) else (signatoryref34_Few.j0 k (decide ((l0_1.length : Int) > 80)) l0_0 l0_1))) else (if (l0_0.length : Int) > 80 then (signatoryref34_Few.j0 k true l0_0 l0_1) else (signatoryref34_Few.j0 k (decide ((l0_1.length : Int) > 80)) l0_0 l0_1))
set_option maxHeartbeats 8000000 in
set_option maxRecDepth 100000 in
theorem signatoryref34_Few.calls (k : Nat) (A0_0 : Option Addr) (c0_0 : Nat) (l0_0 : List (List Int)) (A0_1 : Option Addr) (c0_1 : Nat) (l0_1 : List Int) (r : Bool) (w : World) (hr0_0 : Kd.C (Kd.slice 3 (Kd.int .i64)) w A0_0 l0_0.length l0_0) (hc0_0 : l0_0.length ≤ c0_0) (hr0_1 : Kd.C (Kd.int .i64) w A0_1 l0_1.length l0_1) (hc0_1 : l0_1.length ≤ c0_1) (h : signatoryref34_Few.f k l0_0 l0_1 = some r) :
  Calls Try.prog 21 #[.agg #[.slice A0_0 l0_0.length c0_0, .slice A0_1 l0_1.length c0_1]] w fun e w' => e = .returned (.bool r) ∧ Below w.heap.size w w' := by
 have hu25 := Try.underlying25; have HR0_0 := Aside0.mk hr0_0; have HC0_0 := Aside0.mk hc0_0; clear hr0_0 hc0_0; have HR0_1 := Aside0.mk hr0_1; have HC0_1 := Aside0.mk hc0_1; clear hr0_1 hc0_1; have HB := Aside0.mk (Below.refl w.heap.size w); have H : (if (l0_0.length : Int) > 16 then (if (l0_0.length : Int) ≤ 64 then (signatoryref34_Few.j0 k true l0_0 l0_1) else (if (l0_0.length : Int) > 80 then (signatoryref34_Few.j0 k true l0_0 l0_1) else (signatoryref34_Few.j0 k (decide ((l0_1.length : Int) > 80)) l0_0 l0_1))) else (if (l0_0.length : Int) > 80 then (signatoryref34_Few.j0 k true l0_0 l0_1) else (signatoryref34_Few.j0 k (decide ((l0_1.length : Int) > 80)) l0_0 l0_1))) = some r := h; clear h; have HC2 := Aside0.mk H; clear H
 go_enter Try.func21, Try.ntmps21
 go_upto_region 1 with (first | ((with_reducible refine gate_dst (N := 1) rfl ?_); (try (refine gate_guard (by rfl) ?_; dsimp only)); refine box_event ?hg (N := 1) ?hd (cs := #[.slice A0_0 l0_0.length c0_0, .slice A0_1 l0_1.length c0_1]) (t := 25) ?hr ?_; (case hd => rfl); (case hg => rfl); (case hr => first | (go_simp; done) | (go_simp; rfl)); intro gb398 hg w3 hbox hb; have n0_ := Aside0.mk (below_step hb_ hb); have n1_ := Aside0.mk (hbox); have n2_ := Aside0.mk ((by rw [hg]; exact (below_size hb_) : w.heap.size ≤ gb398)); have n3_ := Aside0.mk ((by rw [hg]; exact (below_size hb_) : w.heap.size ≤ gb398)); clear HB; have HB := n0_; have BK398 := n1_; have GW398 := n2_; have GE_ := n3_; clear n0_ n1_ n2_ n3_; clear hb hbox hg))
 (try simp only [Act.put, List.setIfInBounds_toArray, List.set_cons_zero, List.set_cons_succ])
 go_cut [25] (fun v25 wc => ∃ (kq : Nat) (x25_1 : Bool), v25 = .bool x25_1 ∧ Aside0 (signatoryref34_Few.j0 kq x25_1 l0_0 l0_1 = some r) ∧ Aside0 (kq ≤ k) ∧ Aside0 (wc.heap[gb398]? = some (.cells #[(.slice A0_0 l0_0.length c0_0), (.slice A0_1 l0_1.length c0_1)] 25 (0, 0))) ∧ Aside0 (Below w.heap.size w wc))
 case first =>
  have H := HC2.out; clear HC2
  by_cases c4 : (l0_0.length : Int) > 16
  ·rw [if_pos c4] at H
   have c4b0 : decide (16 < (l0_0.length : Int)) = true := decide_eq_true c4; have c4b1 : decide (16 < l0_0.length) = true := decide_eq_true (by omega); clear c4
   (first | rw [c4b0] | (simp only [i64_w, i32_w]; rw [c4b0]) | skip)
   by_cases c5 : (l0_0.length : Int) ≤ 64
   ·rw [if_pos c5] at H
    have c5b0 : decide ((l0_0.length : Int) ≤ 64) = true := decide_eq_true c5; have c5b1 : decide (l0_0.length ≤ 64) = true := decide_eq_true (by omega); clear c5; have H' := Aside0.mk H; clear H; have hcz6_0 : w3.cell? ⟨gb398, 0, none⟩ = some (.slice A0_0 l0_0.length c0_0) := (blk_cell BK398.out 0).trans rfl; have hcz6_1 : w3.cell? ⟨gb398, 1, none⟩ = some (.slice A0_1 l0_1.length c0_1) := (blk_cell BK398.out 1).trans rfl; have hfz6_0 := blk_frozen BK398.out 0; have hfz6_1 := blk_frozen BK398.out 1; go_wp2
    go_meet
    case rel => exact ⟨_, (true), rf_, H', ⟨by first | omega | exact Nat.le_refl _⟩, ⟨bk_ BK398.out⟩, ⟨hg_⟩⟩
   ·rw [if_neg c5] at H
    have c5b0 : decide ((l0_0.length : Int) ≤ 64) = false := decide_eq_false c5; have c5b1 : decide (l0_0.length ≤ 64) = false := decide_eq_false (by omega); clear c5
    by_cases c7 : (l0_0.length : Int) > 80
    ·rw [if_pos c7] at H
     have c7b0 : decide (80 < (l0_0.length : Int)) = true := decide_eq_true c7; have c7b1 : decide (80 < l0_0.length) = true := decide_eq_true (by omega); clear c7; have H' := Aside0.mk H; clear H; have hcz8_0 : w3.cell? ⟨gb398, 0, none⟩ = some (.slice A0_0 l0_0.length c0_0) := (blk_cell BK398.out 0).trans rfl; have hcz8_1 : w3.cell? ⟨gb398, 1, none⟩ = some (.slice A0_1 l0_1.length c0_1) := (blk_cell BK398.out 1).trans rfl; have hfz8_0 := blk_frozen BK398.out 0; have hfz8_1 := blk_frozen BK398.out 1; go_wp2
     go_meet
     case rel => exact ⟨_, (true), rf_, H', ⟨by first | omega | exact Nat.le_refl _⟩, ⟨bk_ BK398.out⟩, ⟨hg_⟩⟩
    ·rw [if_neg c7] at H
     have c7b0 : decide (80 < (l0_0.length : Int)) = false := decide_eq_false c7; have c7b1 : decide (80 < l0_0.length) = false := decide_eq_false (by omega); clear c7; have H' := Aside0.mk H; clear H; have hcz9_0 : w3.cell? ⟨gb398, 0, none⟩ = some (.slice A0_0 l0_0.length c0_0) := (blk_cell BK398.out 0).trans rfl; have hcz9_1 : w3.cell? ⟨gb398, 1, none⟩ = some (.slice A0_1 l0_1.length c0_1) := (blk_cell BK398.out 1).trans rfl; have hfz9_0 := blk_frozen BK398.out 0; have hfz9_1 := blk_frozen BK398.out 1; go_wp2
     go_meet
     case rel => exact ⟨_, (decide ((l0_1.length : Int) > 80)), rf_, H', ⟨by first | omega | exact Nat.le_refl _⟩, ⟨bk_ BK398.out⟩, ⟨hg_⟩⟩
  ·rw [if_neg c4] at H
   have c4b0 : decide (16 < (l0_0.length : Int)) = false := decide_eq_false c4; have c4b1 : decide (16 < l0_0.length) = false := decide_eq_false (by omega); clear c4
   (first | rw [c4b0] | (simp only [i64_w, i32_w]; rw [c4b0]) | skip)
   by_cases c10 : (l0_0.length : Int) > 80
   ·rw [if_pos c10] at H
    have c10b0 : decide (80 < (l0_0.length : Int)) = true := decide_eq_true c10; have c10b1 : decide (80 < l0_0.length) = true := decide_eq_true (by omega); clear c10; have H' := Aside0.mk H; clear H; have hcz11_0 : w3.cell? ⟨gb398, 0, none⟩ = some (.slice A0_0 l0_0.length c0_0) := (blk_cell BK398.out 0).trans rfl; have hcz11_1 : w3.cell? ⟨gb398, 1, none⟩ = some (.slice A0_1 l0_1.length c0_1) := (blk_cell BK398.out 1).trans rfl; have hfz11_0 := blk_frozen BK398.out 0; have hfz11_1 := blk_frozen BK398.out 1; go_wp2
    go_meet
    case rel => exact ⟨_, (true), rf_, H', ⟨by first | omega | exact Nat.le_refl _⟩, ⟨bk_ BK398.out⟩, ⟨hg_⟩⟩
   ·rw [if_neg c10] at H
    have c10b0 : decide (80 < (l0_0.length : Int)) = false := decide_eq_false c10; have c10b1 : decide (80 < l0_0.length) = false := decide_eq_false (by omega); clear c10; have H' := Aside0.mk H; clear H; have hcz12_0 : w3.cell? ⟨gb398, 0, none⟩ = some (.slice A0_0 l0_0.length c0_0) := (blk_cell BK398.out 0).trans rfl; have hcz12_1 : w3.cell? ⟨gb398, 1, none⟩ = some (.slice A0_1 l0_1.length c0_1) := (blk_cell BK398.out 1).trans rfl; have hfz12_0 := blk_frozen BK398.out 0; have hfz12_1 := blk_frozen BK398.out 1; go_wp2
    go_meet
    case rel => exact ⟨_, (decide ((l0_1.length : Int) > 80)), rf_, H', ⟨by first | omega | exact Nat.le_refl _⟩, ⟨bk_ BK398.out⟩, ⟨hg_⟩⟩
 case rest =>
  clear HC2; (try clear c1); (try clear c2); (try clear p2); (try clear c4); (try clear c4b0); (try clear c4b1); (try clear c5); (try clear c5b0); (try clear c5b1); (try clear c7); (try clear c7b0); (try clear c7b1); (try clear c10); (try clear c10b0); (try clear c10b1); (try clear hcz11_0); (try clear hcz11_1); (try clear hcz12_0); (try clear hcz12_1); (try clear hcz6_0); (try clear hcz6_1); (try clear hcz8_0); (try clear hcz8_1); (try clear hcz9_0); (try clear hcz9_1); (try clear hfz11_0); (try clear hfz11_1); (try clear hfz12_0); (try clear hfz12_1); (try clear hfz6_0); (try clear hfz6_1); (try clear hfz8_0); (try clear hfz8_1); (try clear hfz9_0); (try clear hfz9_1); obtain ⟨kq, x25_1, rfl, HA, HJ1, BK398, HB⟩ := hcut
  cases kq with
  | zero => exact absurd HA.out (by simp [signatoryref34_Few.j0])
  | succ kj1 =>
   have H := HA.out; clear HA; simp only [signatoryref34_Few.j0] at H
   by_cases c13 : x25_1 = true
   ·subst c13
    have H1 : (some false) = some r := by rw [if_pos rfl] at H; exact H
    clear H; have H := H1; clear H1; obtain rfl := Option.some.inj H; go_wp2
    go_ret
    exact ⟨by first | rfl | (simp [errW_none, errW_some] <;> rfl) | (simp [*, errW_none, errW_some] <;> rfl), by repeat (first | (with_reducible first | exact HB.out | apply below_alloc | apply pw_below_drewN | apply below_drew1 | refine below_set ?_ GE_.out) | exact HB.out)⟩
   ·replace c13 := Bool.eq_false_iff.mpr c13
    subst c13
    have H1 : (signatoryref34_Few.l0 kj1 0 l0_0 l0_1) = some r := by rw [if_neg (show ¬ (false = true) by decide)] at H; exact H
    clear H; have H := H1; clear H1; have H' := Aside0.mk H; clear H; go_wp2
    go_loopg [3] kj1 (fun kq v3 w' => ∃ (x3_2 : Int), v3 = .int .i64 x3_2 ∧ Aside0 (signatoryref34_Few.l0 kq x3_2 l0_0 l0_1 = some r) ∧ Aside0 (kq ≤ kj1) ∧ Aside0 (w'.heap[gb398]? = some (.cells #[(.slice A0_0 l0_0.length c0_0), (.slice A0_1 l0_1.length c0_1)] 25 (0, 0))) ∧ Aside0 (Below w.heap.size w w'))
    case atStart => exact ⟨(0), rf_, H', ⟨Nat.le_refl _⟩, ⟨bk_ BK398.out⟩, ⟨hg_⟩⟩
    case round =>
     clear H'; (try clear c1); (try clear c2); (try clear p2); (try clear c4); (try clear c4b0); (try clear c4b1); (try clear c5); (try clear c5b0); (try clear c5b1); (try clear c7); (try clear c7b0); (try clear c7b1); (try clear c10); (try clear c10b0); (try clear c10b1); (try clear c13); (try clear hcz11_0); (try clear hcz11_1); (try clear hcz12_0); (try clear hcz12_1); (try clear hcz6_0); (try clear hcz6_1); (try clear hcz8_0); (try clear hcz8_1); (try clear hcz9_0); (try clear hcz9_1); (try clear hfz11_0); (try clear hfz11_1); (try clear hfz12_0); (try clear hfz12_1); (try clear hfz6_0); (try clear hfz6_1); (try clear hfz8_0); (try clear hfz8_1); (try clear hfz9_0); (try clear hfz9_1); (try clear p2); obtain ⟨x3_2, rfl, HA, HK2, BK398, HB⟩ := hrel
     cases gk with
     | zero => exact absurd HA.out (by simp [signatoryref34_Few.l0])
     | succ k2 =>
      have H := HA.out; clear HA; simp only [signatoryref34_Few.l0] at H
      by_cases c14 : x3_2 < (l0_0.length : Int)
      ·rw [if_pos c14] at H
       have c14b0 : decide (x3_2 < (l0_0.length : Int)) = true := decide_eq_true c14; clear c14
       by_cases c15 : 0 ≤ x3_2
       ·rw [if_pos c15] at H
        have c15b0 : decide (0 ≤ x3_2) = true := decide_eq_true c15; clear c15
        by_cases c16 : ((rd_L1 l0_0 x3_2).length : Int) > 16
        ·rw [if_pos c16] at H
         have c16b0 : decide (16 < ((rd_L1 l0_0 x3_2).length : Int)) = true := decide_eq_true c16; have c16b1 : decide (16 < (rd_L1 l0_0 x3_2).length) = true := decide_eq_true (by omega); clear c16
         by_cases c17 : ((rd_L1 l0_0 x3_2).length : Int) ≤ 64
         ·rw [if_pos c17] at H
          have c17b0 : decide (((rd_L1 l0_0 x3_2).length : Int) ≤ 64) = true := decide_eq_true c17; have c17b1 : decide ((rd_L1 l0_0 x3_2).length ≤ 64) = true := decide_eq_true (by omega); clear c17; obtain rfl := Option.some.inj H; have hcz18_0 : wr.cell? ⟨gb398, 0, none⟩ = some (.slice A0_0 l0_0.length c0_0) := (blk_cell BK398.out 0).trans rfl; have hcz18_1 : wr.cell? ⟨gb398, 1, none⟩ = some (.slice A0_1 l0_1.length c0_1) := (blk_cell BK398.out 1).trans rfl; have hfz18_0 := blk_frozen BK398.out 0; have hfz18_1 := blk_frozen BK398.out 1; have p399 : 0 ≤ (x3_2 : Int) := of_decide_eq_true as_; have q399 : x3_2 < (l0_0.length : Int) := of_decide_eq_true as_; obtain ⟨ad399, A399_0, c399_0, e399, hx399_0, hl399_0, hi399_0⟩ := at_L1 HR0_0.out x3_2 p399 q399; cases e399; replace hx399_0 := (HB.out.cell (World.block_lt_of_cell? w _ hx399_0)).trans hx399_0; have HR399_0 := Aside0.mk hi399_0; have HC399_0 := Aside0.mk hl399_0; clear hi399_0 hl399_0; replace p399 := eq_true p399; replace q399 := eq_true q399; have p400 : 0 ≤ (x3_2 : Int) := of_decide_eq_true as_; have q400 : x3_2 < (l0_0.length : Int) := of_decide_eq_true as_; obtain ⟨ad400, A400_0, c400_0, e400, hx400_0, hl400_0, hi400_0⟩ := at_L1 HR0_0.out x3_2 p400 q400
          obtain rfl : ad399 = ad400 := (by injection e400)
          replace hx400_0 := (HB.out.cell (World.block_lt_of_cell? w _ hx400_0)).trans hx400_0; have HR400_0 := Aside0.mk hi400_0; have HC400_0 := Aside0.mk hl400_0; clear hi400_0 hl400_0; replace p400 := eq_true p400; replace q400 := eq_true q400; have ea_ := Option.some.inj (hx399_0.symm.trans hx400_0); injection ea_ with ea_ en_ ec_; subst ea_; subst ec_; clear en_; go_wp2
          go_ret
          exact ⟨by first | rfl | (simp [errW_none, errW_some] <;> rfl) | (simp [*, errW_none, errW_some] <;> rfl), by repeat (first | (with_reducible first | exact HB.out | apply below_alloc | apply pw_below_drewN | apply below_drew1 | refine below_set ?_ GE_.out) | exact HB.out)⟩
         ·rw [if_neg c17] at H
          have c17b0 : decide (((rd_L1 l0_0 x3_2).length : Int) ≤ 64) = false := decide_eq_false c17; have c17b1 : decide ((rd_L1 l0_0 x3_2).length ≤ 64) = false := decide_eq_false (by omega); clear c17
          by_cases c19 : ((rd_L1 l0_0 x3_2).length : Int) > 80
          ·rw [if_pos c19] at H
           have c19b0 : decide (80 < ((rd_L1 l0_0 x3_2).length : Int)) = true := decide_eq_true c19; have c19b1 : decide (80 < (rd_L1 l0_0 x3_2).length) = true := decide_eq_true (by omega); clear c19; obtain rfl := Option.some.inj H; have hcz20_0 : wr.cell? ⟨gb398, 0, none⟩ = some (.slice A0_0 l0_0.length c0_0) := (blk_cell BK398.out 0).trans rfl; have hcz20_1 : wr.cell? ⟨gb398, 1, none⟩ = some (.slice A0_1 l0_1.length c0_1) := (blk_cell BK398.out 1).trans rfl; have hfz20_0 := blk_frozen BK398.out 0; have hfz20_1 := blk_frozen BK398.out 1; have p399 : 0 ≤ (x3_2 : Int) := of_decide_eq_true as_; have q399 : x3_2 < (l0_0.length : Int) := of_decide_eq_true as_; obtain ⟨ad399, A399_0, c399_0, e399, hx399_0, hl399_0, hi399_0⟩ := at_L1 HR0_0.out x3_2 p399 q399; cases e399; replace hx399_0 := (HB.out.cell (World.block_lt_of_cell? w _ hx399_0)).trans hx399_0; have HR399_0 := Aside0.mk hi399_0; have HC399_0 := Aside0.mk hl399_0; clear hi399_0 hl399_0; replace p399 := eq_true p399; replace q399 := eq_true q399; have p400 : 0 ≤ (x3_2 : Int) := of_decide_eq_true as_; have q400 : x3_2 < (l0_0.length : Int) := of_decide_eq_true as_; obtain ⟨ad400, A400_0, c400_0, e400, hx400_0, hl400_0, hi400_0⟩ := at_L1 HR0_0.out x3_2 p400 q400
           obtain rfl : ad399 = ad400 := (by injection e400)
           replace hx400_0 := (HB.out.cell (World.block_lt_of_cell? w _ hx400_0)).trans hx400_0; have HR400_0 := Aside0.mk hi400_0; have HC400_0 := Aside0.mk hl400_0; clear hi400_0 hl400_0; replace p400 := eq_true p400; replace q400 := eq_true q400; have ea_ := Option.some.inj (hx399_0.symm.trans hx400_0); injection ea_ with ea_ en_ ec_; subst ea_; subst ec_; clear en_; have p401 : 0 ≤ (x3_2 : Int) := of_decide_eq_true as_; have q401 : x3_2 < (l0_0.length : Int) := of_decide_eq_true as_; obtain ⟨ad401, A401_0, c401_0, e401, hx401_0, hl401_0, hi401_0⟩ := at_L1 HR0_0.out x3_2 p401 q401
           obtain rfl : ad399 = ad401 := (by injection e401)
           replace hx401_0 := (HB.out.cell (World.block_lt_of_cell? w _ hx401_0)).trans hx401_0; have HR401_0 := Aside0.mk hi401_0; have HC401_0 := Aside0.mk hl401_0; clear hi401_0 hl401_0; replace p401 := eq_true p401; replace q401 := eq_true q401; have ea_ := Option.some.inj (hx399_0.symm.trans hx401_0); injection ea_ with ea_ en_ ec_; subst ea_; subst ec_; clear en_; go_wp2
           go_ret
           exact ⟨by first | rfl | (simp [errW_none, errW_some] <;> rfl) | (simp [*, errW_none, errW_some] <;> rfl), by repeat (first | (with_reducible first | exact HB.out | apply below_alloc | apply pw_below_drewN | apply below_drew1 | refine below_set ?_ GE_.out) | exact HB.out)⟩
          ·rw [if_neg c19] at H
           have c19b0 : decide (80 < ((rd_L1 l0_0 x3_2).length : Int)) = false := decide_eq_false c19; have c19b1 : decide (80 < (rd_L1 l0_0 x3_2).length) = false := decide_eq_false (by omega); clear c19; have H' := Aside0.mk H; clear H; have hcz21_0 : wr.cell? ⟨gb398, 0, none⟩ = some (.slice A0_0 l0_0.length c0_0) := (blk_cell BK398.out 0).trans rfl; have hcz21_1 : wr.cell? ⟨gb398, 1, none⟩ = some (.slice A0_1 l0_1.length c0_1) := (blk_cell BK398.out 1).trans rfl; have hfz21_0 := blk_frozen BK398.out 0; have hfz21_1 := blk_frozen BK398.out 1; have p399 : 0 ≤ (x3_2 : Int) := of_decide_eq_true as_; have q399 : x3_2 < (l0_0.length : Int) := of_decide_eq_true as_; obtain ⟨ad399, A399_0, c399_0, e399, hx399_0, hl399_0, hi399_0⟩ := at_L1 HR0_0.out x3_2 p399 q399; cases e399; replace hx399_0 := (HB.out.cell (World.block_lt_of_cell? w _ hx399_0)).trans hx399_0; have HR399_0 := Aside0.mk hi399_0; have HC399_0 := Aside0.mk hl399_0; clear hi399_0 hl399_0; replace p399 := eq_true p399; replace q399 := eq_true q399; have p400 : 0 ≤ (x3_2 : Int) := of_decide_eq_true as_; have q400 : x3_2 < (l0_0.length : Int) := of_decide_eq_true as_; obtain ⟨ad400, A400_0, c400_0, e400, hx400_0, hl400_0, hi400_0⟩ := at_L1 HR0_0.out x3_2 p400 q400
           obtain rfl : ad399 = ad400 := (by injection e400)
           replace hx400_0 := (HB.out.cell (World.block_lt_of_cell? w _ hx400_0)).trans hx400_0; have HR400_0 := Aside0.mk hi400_0; have HC400_0 := Aside0.mk hl400_0; clear hi400_0 hl400_0; replace p400 := eq_true p400; replace q400 := eq_true q400; have ea_ := Option.some.inj (hx399_0.symm.trans hx400_0); injection ea_ with ea_ en_ ec_; subst ea_; subst ec_; clear en_; have p401 : 0 ≤ (x3_2 : Int) := of_decide_eq_true as_; have q401 : x3_2 < (l0_0.length : Int) := of_decide_eq_true as_; obtain ⟨ad401, A401_0, c401_0, e401, hx401_0, hl401_0, hi401_0⟩ := at_L1 HR0_0.out x3_2 p401 q401
           obtain rfl : ad399 = ad401 := (by injection e401)
           replace hx401_0 := (HB.out.cell (World.block_lt_of_cell? w _ hx401_0)).trans hx401_0; have HR401_0 := Aside0.mk hi401_0; have HC401_0 := Aside0.mk hl401_0; clear hi401_0 hl401_0; replace p401 := eq_true p401; replace q401 := eq_true q401; have ea_ := Option.some.inj (hx399_0.symm.trans hx401_0); injection ea_ with ea_ en_ ec_; subst ea_; subst ec_; clear en_; go_wp2
           go_roundg k2
           case measure => have := HJ1.out; have := HK2.out; omega
           case rel => exact ⟨(wrap64 (x3_2 + 1)), rf_, H', ⟨by have := HJ1.out; have := HK2.out; omega⟩, ⟨bk_ BK398.out⟩, ⟨hg_⟩⟩
        ·rw [if_neg c16] at H
         have c16b0 : decide (16 < ((rd_L1 l0_0 x3_2).length : Int)) = false := decide_eq_false c16; have c16b1 : decide (16 < (rd_L1 l0_0 x3_2).length) = false := decide_eq_false (by omega); clear c16
         by_cases c22 : ((rd_L1 l0_0 x3_2).length : Int) > 80
         ·rw [if_pos c22] at H
          have c22b0 : decide (80 < ((rd_L1 l0_0 x3_2).length : Int)) = true := decide_eq_true c22; have c22b1 : decide (80 < (rd_L1 l0_0 x3_2).length) = true := decide_eq_true (by omega); clear c22; obtain rfl := Option.some.inj H; have hcz23_0 : wr.cell? ⟨gb398, 0, none⟩ = some (.slice A0_0 l0_0.length c0_0) := (blk_cell BK398.out 0).trans rfl; have hcz23_1 : wr.cell? ⟨gb398, 1, none⟩ = some (.slice A0_1 l0_1.length c0_1) := (blk_cell BK398.out 1).trans rfl; have hfz23_0 := blk_frozen BK398.out 0; have hfz23_1 := blk_frozen BK398.out 1; have p399 : 0 ≤ (x3_2 : Int) := of_decide_eq_true as_; have q399 : x3_2 < (l0_0.length : Int) := of_decide_eq_true as_; obtain ⟨ad399, A399_0, c399_0, e399, hx399_0, hl399_0, hi399_0⟩ := at_L1 HR0_0.out x3_2 p399 q399; cases e399; replace hx399_0 := (HB.out.cell (World.block_lt_of_cell? w _ hx399_0)).trans hx399_0; have HR399_0 := Aside0.mk hi399_0; have HC399_0 := Aside0.mk hl399_0; clear hi399_0 hl399_0; replace p399 := eq_true p399; replace q399 := eq_true q399; have p402 : 0 ≤ (x3_2 : Int) := of_decide_eq_true as_; have q402 : x3_2 < (l0_0.length : Int) := of_decide_eq_true as_; obtain ⟨ad402, A402_0, c402_0, e402, hx402_0, hl402_0, hi402_0⟩ := at_L1 HR0_0.out x3_2 p402 q402
          obtain rfl : ad399 = ad402 := (by injection e402)
          replace hx402_0 := (HB.out.cell (World.block_lt_of_cell? w _ hx402_0)).trans hx402_0; have HR402_0 := Aside0.mk hi402_0; have HC402_0 := Aside0.mk hl402_0; clear hi402_0 hl402_0; replace p402 := eq_true p402; replace q402 := eq_true q402; have ea_ := Option.some.inj (hx399_0.symm.trans hx402_0); injection ea_ with ea_ en_ ec_; subst ea_; subst ec_; clear en_; go_wp2
          go_ret
          exact ⟨by first | rfl | (simp [errW_none, errW_some] <;> rfl) | (simp [*, errW_none, errW_some] <;> rfl), by repeat (first | (with_reducible first | exact HB.out | apply below_alloc | apply pw_below_drewN | apply below_drew1 | refine below_set ?_ GE_.out) | exact HB.out)⟩
         ·rw [if_neg c22] at H
          have c22b0 : decide (80 < ((rd_L1 l0_0 x3_2).length : Int)) = false := decide_eq_false c22; have c22b1 : decide (80 < (rd_L1 l0_0 x3_2).length) = false := decide_eq_false (by omega); clear c22; have H' := Aside0.mk H; clear H; have hcz24_0 : wr.cell? ⟨gb398, 0, none⟩ = some (.slice A0_0 l0_0.length c0_0) := (blk_cell BK398.out 0).trans rfl; have hcz24_1 : wr.cell? ⟨gb398, 1, none⟩ = some (.slice A0_1 l0_1.length c0_1) := (blk_cell BK398.out 1).trans rfl; have hfz24_0 := blk_frozen BK398.out 0; have hfz24_1 := blk_frozen BK398.out 1; have p399 : 0 ≤ (x3_2 : Int) := of_decide_eq_true as_; have q399 : x3_2 < (l0_0.length : Int) := of_decide_eq_true as_; obtain ⟨ad399, A399_0, c399_0, e399, hx399_0, hl399_0, hi399_0⟩ := at_L1 HR0_0.out x3_2 p399 q399; cases e399; replace hx399_0 := (HB.out.cell (World.block_lt_of_cell? w _ hx399_0)).trans hx399_0; have HR399_0 := Aside0.mk hi399_0; have HC399_0 := Aside0.mk hl399_0; clear hi399_0 hl399_0; replace p399 := eq_true p399; replace q399 := eq_true q399; have p402 : 0 ≤ (x3_2 : Int) := of_decide_eq_true as_; have q402 : x3_2 < (l0_0.length : Int) := of_decide_eq_true as_; obtain ⟨ad402, A402_0, c402_0, e402, hx402_0, hl402_0, hi402_0⟩ := at_L1 HR0_0.out x3_2 p402 q402
          obtain rfl : ad399 = ad402 := (by injection e402)
          replace hx402_0 := (HB.out.cell (World.block_lt_of_cell? w _ hx402_0)).trans hx402_0; have HR402_0 := Aside0.mk hi402_0; have HC402_0 := Aside0.mk hl402_0; clear hi402_0 hl402_0; replace p402 := eq_true p402; replace q402 := eq_true q402; have ea_ := Option.some.inj (hx399_0.symm.trans hx402_0); injection ea_ with ea_ en_ ec_; subst ea_; subst ec_; clear en_; go_wp2
          go_roundg k2
          case measure => have := HJ1.out; have := HK2.out; omega
          case rel => exact ⟨(wrap64 (x3_2 + 1)), rf_, H', ⟨by have := HJ1.out; have := HK2.out; omega⟩, ⟨bk_ BK398.out⟩, ⟨hg_⟩⟩
       ·rw [if_neg c15] at H
        exact absurd H (by simp)
      ·rw [if_neg c14] at H
       have c14b0 : decide (x3_2 < (l0_0.length : Int)) = false := decide_eq_false c14; clear c14; obtain rfl := Option.some.inj H; have hcz25_0 : wr.cell? ⟨gb398, 0, none⟩ = some (.slice A0_0 l0_0.length c0_0) := (blk_cell BK398.out 0).trans rfl; have hcz25_1 : wr.cell? ⟨gb398, 1, none⟩ = some (.slice A0_1 l0_1.length c0_1) := (blk_cell BK398.out 1).trans rfl; have hfz25_0 := blk_frozen BK398.out 0; have hfz25_1 := blk_frozen BK398.out 1; go_wp2
       go_ret
       exact ⟨by first | rfl | (simp [errW_none, errW_some] <;> rfl) | (simp [*, errW_none, errW_some] <;> rfl), by repeat (first | (with_reducible first | exact HB.out | apply below_alloc | apply pw_below_drewN | apply below_drew1 | refine below_set ?_ GE_.out) | exact HB.out)⟩
def signatoryref34_Number.f (a0 : Int) : Option (Bool) := if a0 ≥ 0 then (some (decide (a0 < 1073741789))) else (some false)
set_option maxHeartbeats 8000000 in
set_option maxRecDepth 100000 in
theorem signatoryref34_Number.calls (a0 : Int) (r : Bool) (w : World) (h : signatoryref34_Number.f a0 = some r) :
  Calls Try.prog 87 #[.int .i64 a0] w fun e w' => e = .returned (.bool r) ∧ Drawn0 w w' := by
 have H : (if a0 ≥ 0 then (some (decide (a0 < 1073741789))) else (some false)) = some r := h; clear h
 by_cases c2 : a0 ≥ 0
 ·rw [if_pos c2] at H
  have c2b0 : decide (0 ≤ a0) = true := decide_eq_true c2; clear c2; obtain rfl := Option.some.inj H
  go_enter Try.func87, Try.ntmps87
  go_wp2
  go_ret
  exact ⟨rf_, dr_⟩
 ·rw [if_neg c2] at H
  have c2b0 : decide (0 ≤ a0) = false := decide_eq_false c2; clear c2; obtain rfl := Option.some.inj H
  go_enter Try.func87, Try.ntmps87
  go_wp2
  go_ret
  exact ⟨rf_, dr_⟩
def signatoryref34_power.f (k : Nat) (a0 : Int) (a1 : Int) : Option (Int) := (signatoryref10_Pow.f k a0 a1).bind fun bt308 => (some bt308.1)
set_option maxHeartbeats 8000000 in
set_option maxRecDepth 100000 in
theorem signatoryref34_power.calls (k : Nat) (a0 : Int) (a1 : Int) (r : Int) (w : World) (h : signatoryref34_power.f k a0 a1 = some r) :
  Calls Try.prog 90 #[.int .i64 a0, .int .i64 a1] w fun e w' => e = .returned (.int .i64 r) ∧ Drawn0 w w' := by
 have H : ((signatoryref10_Pow.f k a0 a1).bind fun bt308 => (some bt308.1)) = some r := h; clear h; replace H := Option.bind_eq_some_iff.mp H; obtain ⟨⟨t308, t309⟩, A30, H⟩ := H; replace H : (some t308) = some r := H; have A3 := Aside0.mk A30; clear A30; obtain rfl := Option.some.inj H
 go_enter Try.func90, Try.ntmps90
 go_wp2_with (first | ((with_reducible refine gate_callee (f := 168) rfl ?_); refine goesL_ (some 10) rfl rfl Try.func168 (by kernel_rfl) rfl #[.int .i64 a0, .int .i64 a1] rfl mp_ ?_; (with_reducible refine (signatoryref10_Pow.calls k a0 a1 t308 t309 _ A3.out).mono ?_); rintro e w' ⟨rfl, ⟨nd, rfl⟩⟩; refine ⟨_, rfl, ?_⟩))
 go_ret
 exact ⟨rf_, dr_⟩
def signatoryref34_share.f (l0_0 : List (List Int)) (l0_1 : List Int) (a1_0 : Int) (a1_1 : Int) : Option (Bool) := if a1_0 ≥ 0 then (if a1_0 < (l0_0.length : Int) then ((signatoryref34_Number.f a1_1).bind fun t354 => (some t354)) else (some false)) else (some false)
set_option maxHeartbeats 8000000 in
set_option maxRecDepth 100000 in
theorem signatoryref34_share.calls (A0_0 : Option Addr) (c0_0 : Nat) (l0_0 : List (List Int)) (A0_1 : Option Addr) (c0_1 : Nat) (l0_1 : List Int) (a1_0 : Int) (a1_1 : Int) (r : Bool) (w : World) (hr0_0 : Kd.C (Kd.slice 3 (Kd.int .i64)) w A0_0 l0_0.length l0_0) (hc0_0 : l0_0.length ≤ c0_0) (hr0_1 : Kd.C (Kd.int .i64) w A0_1 l0_1.length l0_1) (hc0_1 : l0_1.length ≤ c0_1) (h : signatoryref34_share.f l0_0 l0_1 a1_0 a1_1 = some r) :
  Calls Try.prog 103 #[.agg #[.slice A0_0 l0_0.length c0_0, .slice A0_1 l0_1.length c0_1], .agg #[.int .i64 a1_0, .int .i64 a1_1]] w fun e w' => e = .returned (.bool r) ∧ Below w.heap.size w w' := by
 have hu25 := Try.underlying25; have hu38 := Try.underlying38; have HR0_0 := Aside0.mk hr0_0; have HC0_0 := Aside0.mk hc0_0; clear hr0_0 hc0_0; have HR0_1 := Aside0.mk hr0_1; have HC0_1 := Aside0.mk hc0_1; clear hr0_1 hc0_1; have HB := Aside0.mk (Below.refl w.heap.size w); have H : (if a1_0 ≥ 0 then (if a1_0 < (l0_0.length : Int) then ((signatoryref34_Number.f a1_1).bind fun t354 => (some t354)) else (some false)) else (some false)) = some r := h; clear h
 by_cases c3 : a1_0 ≥ 0
 ·rw [if_pos c3] at H
  have c3b0 : decide (0 ≤ a1_0) = true := decide_eq_true c3; clear c3
  by_cases c4 : a1_0 < (l0_0.length : Int)
  ·rw [if_pos c4] at H
   have c4b0 : decide (a1_0 < (l0_0.length : Int)) = true := decide_eq_true c4; clear c4; replace H := Option.bind_eq_some_iff.mp H; obtain ⟨t354, A50, H⟩ := H; replace H : (some t354) = some r := H; have A5 := Aside0.mk A50; clear A50; obtain rfl := Option.some.inj H
   go_enter Try.func103, Try.ntmps103
   go_wp2_with (first | ((with_reducible refine gate_dst (N := 2) rfl ?_); (try (refine gate_guard (by rfl) ?_; dsimp only)); refine box_event ?hg (N := 2) ?hd (cs := #[.slice A0_0 l0_0.length c0_0, .slice A0_1 l0_1.length c0_1]) (t := 25) ?hr ?_; (case hd => rfl); (case hg => rfl); (case hr => first | (go_simp; done) | (go_simp; rfl)); intro gb352 hg w6 hbox hb; have n0_ := Aside0.mk (below_step hb_ hb); have n1_ := Aside0.mk (hbox); have n2_ := Aside0.mk ((by rw [hg]; exact (below_size hb_) : w.heap.size ≤ gb352)); have n3_ := Aside0.mk ((by rw [hg]; exact (below_size hb_) : w.heap.size ≤ gb352)); clear HB; have HB := n0_; have BK352 := n1_; have GW352 := n2_; have GE352 := n3_; clear n0_ n1_ n2_ n3_; clear hb hbox hg) | ((with_reducible refine gate_dst (N := 3) rfl ?_); (try (refine gate_guard (by rfl) ?_; dsimp only)); refine box_event ?hg (N := 3) ?hd (cs := #[.int .i64 a1_0, .int .i64 a1_1]) (t := 38) ?hr ?_; (case hd => rfl); (case hg => rfl); (case hr => first | (go_simp; done) | (go_simp; rfl)); intro gb353 hg w7 hbox hb; have n0_ := Aside0.mk (blk_below (g := gb352) (o := .cells #[.slice A0_0 l0_0.length c0_0, .slice A0_1 l0_1.length c0_1] 25 (0, 0)) (bk_ BK352.out) hb); have n1_ := Aside0.mk (below_step (by repeat (first | (with_reducible first | exact HB.out | apply below_alloc | apply pw_below_drewN | apply below_drew1 | refine below_set ?_ GE352.out) | exact HB.out)) hb); have n2_ := Aside0.mk (hbox); have n3_ := Aside0.mk ((by rw [hg]; exact (below_size (by repeat (first | (with_reducible first | exact HB.out | apply below_alloc | apply pw_below_drewN | apply below_drew1 | refine below_set ?_ GE352.out) | exact HB.out))) : w.heap.size ≤ gb353)); have n4_ := Aside0.mk ((by rw [hg]; exact (below_size (by repeat (first | (with_reducible first | exact HB.out | apply below_alloc | apply pw_below_drewN | apply below_drew1 | refine below_set ?_ GE352.out) | exact HB.out))) : w.heap.size ≤ gb353)); have n5_ := Aside0.mk ((by rw [hg]; exact Nat.ne_of_lt (blk_lt (g := gb352) (o := .cells #[.slice A0_0 l0_0.length c0_0, .slice A0_1 l0_1.length c0_1] 25 (0, 0)) (bk_ BK352.out)) : gb352 ≠ gb353)); have n6_ := Aside0.mk ((by rw [hg]; exact Nat.ne_of_gt (blk_lt (g := gb352) (o := .cells #[.slice A0_0 l0_0.length c0_0, .slice A0_1 l0_1.length c0_1] 25 (0, 0)) (bk_ BK352.out)) : gb353 ≠ gb352)); clear BK352; clear HB; have BK352 := n0_; have HB := n1_; have BK353 := n2_; have GW353 := n3_; have GE353 := n4_; have NB352_353 := n5_; have NB353_352 := n6_; clear n0_ n1_ n2_ n3_ n4_ n5_ n6_; clear hb hbox hg; have hnb8 := NB353_352.out; have hnc8 := NB352_353.out; have hcz9_0 : w7.cell? ⟨gb353, 0, none⟩ = some (.int .i64 a1_0) := (blk_cell BK353.out 0).trans rfl; have hcz9_1 : w7.cell? ⟨gb353, 1, none⟩ = some (.int .i64 a1_1) := (blk_cell BK353.out 1).trans rfl; have hfz9_0 := blk_frozen BK353.out 0; have hfz9_1 := blk_frozen BK353.out 1; have hcz10_0 : w7.cell? ⟨gb352, 0, none⟩ = some (.slice A0_0 l0_0.length c0_0) := (blk_cell BK352.out 0).trans rfl; have hcz10_1 : w7.cell? ⟨gb352, 1, none⟩ = some (.slice A0_1 l0_1.length c0_1) := (blk_cell BK352.out 1).trans rfl; have hfz10_0 := blk_frozen BK352.out 0; have hfz10_1 := blk_frozen BK352.out 1) | (go_at_call 87; (with_reducible refine (signatoryref34_Number.calls a1_1 t354 _ A5.out).mono ?_); rintro e w' ⟨rfl, ⟨nd, rfl⟩⟩))
   go_ret
   exact ⟨by first | rfl | (simp [errW_none, errW_some] <;> rfl) | (simp [*, errW_none, errW_some] <;> rfl), by repeat (first | (with_reducible first | exact HB.out | apply below_alloc | apply pw_below_drewN | apply below_drew1 | refine below_set ?_ GE352.out | refine below_set ?_ GE353.out) | exact HB.out)⟩
  ·rw [if_neg c4] at H
   have c4b0 : decide (a1_0 < (l0_0.length : Int)) = false := decide_eq_false c4; clear c4; obtain rfl := Option.some.inj H
   go_enter Try.func103, Try.ntmps103
   go_wp2_with (first | ((with_reducible refine gate_dst (N := 2) rfl ?_); (try (refine gate_guard (by rfl) ?_; dsimp only)); refine box_event ?hg (N := 2) ?hd (cs := #[.slice A0_0 l0_0.length c0_0, .slice A0_1 l0_1.length c0_1]) (t := 25) ?hr ?_; (case hd => rfl); (case hg => rfl); (case hr => first | (go_simp; done) | (go_simp; rfl)); intro gb352 hg w11 hbox hb; have n0_ := Aside0.mk (below_step hb_ hb); have n1_ := Aside0.mk (hbox); have n2_ := Aside0.mk ((by rw [hg]; exact (below_size hb_) : w.heap.size ≤ gb352)); have n3_ := Aside0.mk ((by rw [hg]; exact (below_size hb_) : w.heap.size ≤ gb352)); clear HB; have HB := n0_; have BK352 := n1_; have GW352 := n2_; have GE352 := n3_; clear n0_ n1_ n2_ n3_; clear hb hbox hg) | ((with_reducible refine gate_dst (N := 3) rfl ?_); (try (refine gate_guard (by rfl) ?_; dsimp only)); refine box_event ?hg (N := 3) ?hd (cs := #[.int .i64 a1_0, .int .i64 a1_1]) (t := 38) ?hr ?_; (case hd => rfl); (case hg => rfl); (case hr => first | (go_simp; done) | (go_simp; rfl)); intro gb353 hg w12 hbox hb; have n0_ := Aside0.mk (blk_below (g := gb352) (o := .cells #[.slice A0_0 l0_0.length c0_0, .slice A0_1 l0_1.length c0_1] 25 (0, 0)) (bk_ BK352.out) hb); have n1_ := Aside0.mk (below_step (by repeat (first | (with_reducible first | exact HB.out | apply below_alloc | apply pw_below_drewN | apply below_drew1 | refine below_set ?_ GE352.out) | exact HB.out)) hb); have n2_ := Aside0.mk (hbox); have n3_ := Aside0.mk ((by rw [hg]; exact (below_size (by repeat (first | (with_reducible first | exact HB.out | apply below_alloc | apply pw_below_drewN | apply below_drew1 | refine below_set ?_ GE352.out) | exact HB.out))) : w.heap.size ≤ gb353)); have n4_ := Aside0.mk ((by rw [hg]; exact (below_size (by repeat (first | (with_reducible first | exact HB.out | apply below_alloc | apply pw_below_drewN | apply below_drew1 | refine below_set ?_ GE352.out) | exact HB.out))) : w.heap.size ≤ gb353)); have n5_ := Aside0.mk ((by rw [hg]; exact Nat.ne_of_lt (blk_lt (g := gb352) (o := .cells #[.slice A0_0 l0_0.length c0_0, .slice A0_1 l0_1.length c0_1] 25 (0, 0)) (bk_ BK352.out)) : gb352 ≠ gb353)); have n6_ := Aside0.mk ((by rw [hg]; exact Nat.ne_of_gt (blk_lt (g := gb352) (o := .cells #[.slice A0_0 l0_0.length c0_0, .slice A0_1 l0_1.length c0_1] 25 (0, 0)) (bk_ BK352.out)) : gb353 ≠ gb352)); clear BK352; clear HB; have BK352 := n0_; have HB := n1_; have BK353 := n2_; have GW353 := n3_; have GE353 := n4_; have NB352_353 := n5_; have NB353_352 := n6_; clear n0_ n1_ n2_ n3_ n4_ n5_ n6_; clear hb hbox hg; have hnb13 := NB353_352.out; have hnc13 := NB352_353.out; have hcz14_0 : w12.cell? ⟨gb353, 0, none⟩ = some (.int .i64 a1_0) := (blk_cell BK353.out 0).trans rfl; have hcz14_1 : w12.cell? ⟨gb353, 1, none⟩ = some (.int .i64 a1_1) := (blk_cell BK353.out 1).trans rfl; have hfz14_0 := blk_frozen BK353.out 0; have hfz14_1 := blk_frozen BK353.out 1; have hcz15_0 : w12.cell? ⟨gb352, 0, none⟩ = some (.slice A0_0 l0_0.length c0_0) := (blk_cell BK352.out 0).trans rfl; have hcz15_1 : w12.cell? ⟨gb352, 1, none⟩ = some (.slice A0_1 l0_1.length c0_1) := (blk_cell BK352.out 1).trans rfl; have hfz15_0 := blk_frozen BK352.out 0; have hfz15_1 := blk_frozen BK352.out 1))
   go_ret
   exact ⟨by first | rfl | (simp [errW_none, errW_some] <;> rfl) | (simp [*, errW_none, errW_some] <;> rfl), by repeat (first | (with_reducible first | exact HB.out | apply below_alloc | apply pw_below_drewN | apply below_drew1 | refine below_set ?_ GE352.out | refine below_set ?_ GE353.out) | exact HB.out)⟩
 ·rw [if_neg c3] at H
  have c3b0 : decide (0 ≤ a1_0) = false := decide_eq_false c3; clear c3; obtain rfl := Option.some.inj H
  go_enter Try.func103, Try.ntmps103
  go_wp2_with (first | ((with_reducible refine gate_dst (N := 2) rfl ?_); (try (refine gate_guard (by rfl) ?_; dsimp only)); refine box_event ?hg (N := 2) ?hd (cs := #[.slice A0_0 l0_0.length c0_0, .slice A0_1 l0_1.length c0_1]) (t := 25) ?hr ?_; (case hd => rfl); (case hg => rfl); (case hr => first | (go_simp; done) | (go_simp; rfl)); intro gb352 hg w16 hbox hb; have n0_ := Aside0.mk (below_step hb_ hb); have n1_ := Aside0.mk (hbox); have n2_ := Aside0.mk ((by rw [hg]; exact (below_size hb_) : w.heap.size ≤ gb352)); have n3_ := Aside0.mk ((by rw [hg]; exact (below_size hb_) : w.heap.size ≤ gb352)); clear HB; have HB := n0_; have BK352 := n1_; have GW352 := n2_; have GE352 := n3_; clear n0_ n1_ n2_ n3_; clear hb hbox hg) | ((with_reducible refine gate_dst (N := 3) rfl ?_); (try (refine gate_guard (by rfl) ?_; dsimp only)); refine box_event ?hg (N := 3) ?hd (cs := #[.int .i64 a1_0, .int .i64 a1_1]) (t := 38) ?hr ?_; (case hd => rfl); (case hg => rfl); (case hr => first | (go_simp; done) | (go_simp; rfl)); intro gb353 hg w17 hbox hb; have n0_ := Aside0.mk (blk_below (g := gb352) (o := .cells #[.slice A0_0 l0_0.length c0_0, .slice A0_1 l0_1.length c0_1] 25 (0, 0)) (bk_ BK352.out) hb); have n1_ := Aside0.mk (below_step (by repeat (first | (with_reducible first | exact HB.out | apply below_alloc | apply pw_below_drewN | apply below_drew1 | refine below_set ?_ GE352.out) | exact HB.out)) hb); have n2_ := Aside0.mk (hbox); have n3_ := Aside0.mk ((by rw [hg]; exact (below_size (by repeat (first | (with_reducible first | exact HB.out | apply below_alloc | apply pw_below_drewN | apply below_drew1 | refine below_set ?_ GE352.out) | exact HB.out))) : w.heap.size ≤ gb353)); have n4_ := Aside0.mk ((by rw [hg]; exact (below_size (by repeat (first | (with_reducible first | exact HB.out | apply below_alloc | apply pw_below_drewN | apply below_drew1 | refine below_set ?_ GE352.out) | exact HB.out))) : w.heap.size ≤ gb353)); have n5_ := Aside0.mk ((by rw [hg]; exact Nat.ne_of_lt (blk_lt (g := gb352) (o := .cells #[.slice A0_0 l0_0.length c0_0, .slice A0_1 l0_1.length c0_1] 25 (0, 0)) (bk_ BK352.out)) : gb352 ≠ gb353)); have n6_ := Aside0.mk ((by rw [hg]; exact Nat.ne_of_gt (blk_lt (g := gb352) (o := .cells #[.slice A0_0 l0_0.length c0_0, .slice A0_1 l0_1.length c0_1] 25 (0, 0)) (bk_ BK352.out)) : gb353 ≠ gb352)); clear BK352; clear HB; have BK352 := n0_; have HB := n1_; have BK353 := n2_; have GW353 := n3_; have GE353 := n4_; have NB352_353 := n5_; have NB353_352 := n6_; clear n0_ n1_ n2_ n3_ n4_ n5_ n6_; clear hb hbox hg; have hnb18 := NB353_352.out; have hnc18 := NB352_353.out; have hcz19_0 : w17.cell? ⟨gb353, 0, none⟩ = some (.int .i64 a1_0) := (blk_cell BK353.out 0).trans rfl; have hcz19_1 : w17.cell? ⟨gb353, 1, none⟩ = some (.int .i64 a1_1) := (blk_cell BK353.out 1).trans rfl; have hfz19_0 := blk_frozen BK353.out 0; have hfz19_1 := blk_frozen BK353.out 1))
  go_ret
  exact ⟨by first | rfl | (simp [errW_none, errW_some] <;> rfl) | (simp [*, errW_none, errW_some] <;> rfl), by repeat (first | (with_reducible first | exact HB.out | apply below_alloc | apply pw_below_drewN | apply below_drew1 | refine below_set ?_ GE352.out | refine below_set ?_ GE353.out) | exact HB.out)⟩
end Go.Proofs.Ytdbamhckgaoibaa.P
namespace Go.Proofs.Ytdbamhckgaoibaa.P
open Go.RowKit Go.Proofs.YtdbamhckgaoibaaW.PrintWords Go.Proofs.YtdbamhckgaoibaaW.PrintLast Go.Proofs.YtdbamhckgaoibaaW.PrintMore
theorem rpower_math {a n : Int} (h : isEl a = true) (k : Nat) (hk : 40 ≤ k) : signatoryref34_power.f k a n = some (a ^ (n % 1073741789).toNat % 2147483579) := by
  unfold signatoryref34_power.f
  rw [rpw_math a n k hk, h]; rfl
theorem few_l0 (rows : List (List Int)) (owners : List Int) (hn : rows.length < 1000000) (k : Nat) : ∀ d j, rows.length - j = d → j ≤ rows.length → ∃ b, signatoryref34_Few.l0 (k + d + 1) (j : Int) rows owners = some b := by
  intro d
  induction d with
  | zero =>
    intro j hd hj; exact ⟨true, by rw [signatoryref34_Few.l0, if_neg (by omega)]⟩
  | succ d ih =>
    intro j hd hj; obtain ⟨b, hb⟩ := ih (j + 1) (by omega) (by omega); rw [← wrap_succ (show j < 1000000 by omega)] at hb; rw [signatoryref34_Few.l0, if_pos (by omega), if_pos (by omega), ← Nat.add_assoc, hb]
    split
    · split
      · exact ⟨_, rfl⟩
      · split
        · exact ⟨_, rfl⟩
        · exact ⟨_, rfl⟩
    · split
      · exact ⟨_, rfl⟩
      · exact ⟨_, rfl⟩
theorem few_some (rows : List (List Int)) (owners : List Int) (k : Nat) (hk : 200 ≤ k) : ∃ b, signatoryref34_Few.f k rows owners = some b := by
  have hj : ∀ x, rows.length ≤ 80 → ∃ b, signatoryref34_Few.j0 k x rows owners = some b := fun x hx => by
    obtain ⟨k, rfl⟩ : ∃ k', k = k' + rows.length + 1 + 1 := ⟨k - rows.length - 2, by omega⟩
    rw [signatoryref34_Few.j0]
    split
    · exact ⟨_, rfl⟩
    · exact few_l0 rows owners (by omega) k rows.length 0 (by omega) (by omega)
  have hT : ∃ b, signatoryref34_Few.j0 k true rows owners = some b := by
    obtain ⟨k, rfl⟩ : ∃ k', k = k' + 1 := ⟨k - 1, by omega⟩
    exact ⟨false, by rw [signatoryref34_Few.j0, if_pos rfl]⟩
  unfold signatoryref34_Few.f
  split
  · split
    · exact hT
    · split
      · exact hT
      · exact hj _ (by omega)
  · split
    · exact hT
    · exact hj _ (by omega)
end Go.Proofs.Ytdbamhckgaoibaa.P
namespace Go.Proofs.Ytdbamhckgaoibaa.P
open Go.RowKit Go.Proofs.YtdbamhckgaoibaaW.PrintWords Go.Proofs.YtdbamhckgaoibaaW.PrintLast Go.Proofs.YtdbamhckgaoibaaW.PrintMore
set_option linter.unusedVariables false
set_option linter.unusedSimpArgs false
theorem mk_target (n : Nat) : (madeCells #[Value.int .i64 0] n).setIfInBounds 0 (.int .i64 1) = (nums .i64 ((List.replicate n 0).set 0 1)).toArray := by
  have hl : (madeCells #[Value.int .i64 0] n).toList = nums .i64 (List.replicate n 0) := by
    apply List.ext_getElem
    · simp [nums, madeCells]
    · intro i h1 h2
      simp [nums, madeCells, Nat.mod_one]
  apply Array.ext'
  rw [Array.toList_setIfInBounds, hl]
  simp [nums, List.map_set]
set_option maxRecDepth 100000 in
set_option maxHeartbeats 4000000 in
theorem recover_bad (A0 : Option Addr) (c0 : Nat) (rows : List (List Int)) (A1 : Option Addr) (c1 : Nat) (owners : List Int) (As : Option Addr) (cs : Nat) (ls : List S38) (w : World)
    (hr0 : Kd.C (Kd.slice 3 (Kd.int .i64)) w A0 rows.length rows) (hc0 : rows.length ≤ c0) (hr1 : Kd.C (Kd.int .i64) w A1 owners.length owners) (hc1 : owners.length ≤ c1) (hk : checkP rows owners ≠ 0) :
    Calls Try.prog 24 #[.agg #[.slice A0 rows.length c0, .slice A1 owners.length c1], .slice As ls.length cs] w fun e w' => e = .returned (.tuple #[.int .i64 0, .bool false, .int .i64 (checkP rows owners)]) ∧ Below w.heap.size w w' := by
  have hb0 : Below w.heap.size w (w.alloc (.cells #[.slice A0 rows.length c0, .slice A1 owners.length c1] 25)) := (Below.refl _ _).alloc (Nat.le_refl _) _; have HC := Aside0.mk (program_Check.calls 66 A0 c0 rows A1 c1 owners (checkP rows owners) _ (Kd.C_below hr0 hb0) hc0 (Kd.C_below hr1 hb0) hc1 (check_math _ _ _ (Nat.le_refl _))); have HB0 := Aside0.mk hb0; generalize checkP rows owners = e at hk HC ⊢; have hkb : (e == 0) = false := beq_eq_false_iff_ne.2 hk; clear hr0 hr1 hc0 hc1 hb0 hk
  go_enter Try.func24, Try.ntmps24
  go_wp2_with (go_at_call 82; refine HC.out.mono ?_; rintro e' w' ⟨rfl, hb⟩; have HB := Aside0.mk (below_then HB0.out (by simp) hb); clear hb HC)
  go_ret3
  exact ⟨rfl, HB.out⟩
set_option maxRecDepth 100000 in
set_option maxHeartbeats 8000000 in
theorem recover_good (A0 : Option Addr) (c0 : Nat) (rows : List (List Int)) (A1 : Option Addr) (c1 : Nat) (owners : List Int) (As : Option Addr) (cs : Nat) (ls : List S38) (w : World)
    (hr0 : Kd.C (Kd.slice 3 (Kd.int .i64)) w A0 rows.length rows) (hc0 : rows.length ≤ c0) (hr1 : Kd.C (Kd.int .i64) w A1 owners.length owners) (hc1 : owners.length ≤ c1) (hrs : Kd.C k38 w As ls.length ls) (hcs : ls.length ≤ cs) (hk : checkP rows owners = 0) :
    Calls Try.prog 24 #[.agg #[.slice A0 rows.length c0, .slice A1 owners.length c1], .slice As ls.length cs] w fun e w' => e = .returned (.tuple #[.int .i64 (recQ rows owners ls).1, .bool (recQ rows owners ls).2.1, .int .i64 (recQ rows owners ls).2.2]) ∧ Below w.heap.size w w' := by
  have hrq : recQ rows owners ls = if sharesOk rows.length (-1) ls then recT rows ls else (0, false, 340) := by unfold recQ; rw [if_pos hk]
  generalize hres : recQ rows owners ls = res at hrq ⊢
  obtain ⟨W0, hW0⟩ : ∃ W0, w.alloc (.cells #[.slice A0 rows.length c0, .slice A1 owners.length c1] 25) = W0 := ⟨_, rfl⟩
  have hb0 : Below w.heap.size w W0 := by rw [← hW0]; exact (Below.refl _ _).alloc (Nat.le_refl _) _
  have hz0 : W0.heap.size = w.heap.size + 1 := by rw [← hW0]; simp
  have p0 : W0.cell? ⟨w.heap.size, 0, none⟩ = some (.slice A0 rows.length c0) := by
    rw [← hW0]; simp only [World.cell?]; rw [World.alloc_heap_new]; rfl
  have p1 : W0.cell? ⟨w.heap.size, 1, none⟩ = some (.slice A1 owners.length c1) := by
    rw [← hW0]; simp only [World.cell?]; rw [World.alloc_heap_new]; rfl
  have HC := Aside0.mk (program_Check.calls 66 A0 c0 rows A1 c1 owners 0 W0 (Kd.C_below hr0 hb0) hc0 (Kd.C_below hr1 hb0) hc1 (hk ▸ check_math _ _ _ (Nat.le_refl _)))
  have HRT : Aside0 (∀ (W : World) (hb : Below W0.heap.size W0 W) (s : S38), Calls Try.prog 91 #[.agg #[.slice A0 rows.length c0, .slice A1 owners.length c1], .agg #[.int .i64 s.f0, .int .i64 s.f1]] W fun e w' => e = .returned (.bool (rightS rows.length s)) ∧ Below W.heap.size W w') := ⟨fun W hb s => right_w ⟨hc0, Kd.C_below (Kd.C_below hr0 hb0) hb⟩ ⟨hc1, Kd.C_below (Kd.C_below hr1 hb0) hb⟩⟩
  have HRS := Aside0.mk (Kd.C_below hrs hb0); have HR0 := Aside0.mk (Kd.C_below hr0 hb0); have HR1 := Aside0.mk (Kd.C_below hr1 hb0); have HB0 := Aside0.mk hb0; have HP := Aside0.mk (And.intro p0 p1); have HRQ := Aside0.mk hrq; have HK := Aside0.mk hk; have HW0 := Aside0.mk hW0; have HZ0 := Aside0.mk hz0; have hlen : ls.length ≤ 9223372036854775807 := hrs.2.1; have q0 := World.block_lt_of_cell? W0 _ p0; simp only at q0; clear hr0 hr1 hrs hb0 hrq hk hW0 hz0 hres
  go_enter Try.func24, Try.ntmps24
  go_wp2_with (go_at_call 82; rw [HW0.out]; refine HC.out.mono ?_; rintro e' w1 ⟨rfl, hb⟩; have HB1 := Aside0.mk hb; clear hb HC)
  go_loopg [8, 20] ls.length (fun gk v8 v20 w' => ∃ (j : Nat) (last : Int), j ≤ ls.length ∧ gk = ls.length - j ∧ v20 = .int .i64 (j : Int) ∧ v8 = .int .i64 last ∧ Aside0 (sharesOk rows.length (-1) ls = sharesOk rows.length last (ls.drop j)) ∧ Aside0 (Below W0.heap.size W0 w'))
  case atStart => exact ⟨0, -1, Nat.zero_le _, rfl, rfl, rfl, ⟨rfl⟩, HB1⟩
  case round =>
    obtain ⟨j, last, hj, rfl, rfl, rfl, HS, HB⟩ := hrel; have r0 := (HB.out.cell (p := ⟨w.heap.size, 0, none⟩) q0).trans HP.out.1; have r1 := (HB.out.cell (p := ⟨w.heap.size, 1, none⟩) q0).trans HP.out.2; have q1 : w.heap.size < wr.heap.size := Nat.lt_of_lt_of_le q0 HB.out.size
    by_cases hlt : j < ls.length
    · have d1 : decide ((j : Int) < (ls.length : Int)) = true := decide_eq_true (by omega)
      have d2 : decide (j < ls.length) = true := decide_eq_true hlt
      have d4 : (0 : Int) ≤ (j : Int) := by omega
      obtain ⟨ad, e, x1, x2⟩ := at_T38 HRS.out (j : Int) (by omega) (by omega); cases e; rw [Int.toNat_natCast] at x1 x2; replace x1 := (HB.out.cell (World.block_lt_of_cell? W0 _ x1)).trans x1; replace x2 := (HB.out.cell (World.block_lt_of_cell? W0 _ x2)).trans x2
      have hrd : rd_T38 ls (j : Int) = ls[j] := by unfold rd_T38; rw [Int.toNat_natCast, List.getD_eq_getElem?_getD, List.getElem?_eq_getElem hlt]; rfl
      rw [hrd] at x1 x2; have hdr : ls.drop j = ls[j] :: ls.drop (j + 1) := List.drop_eq_getElem_cons hlt
      have hso : sharesOk rows.length (-1) ls = (rightS rows.length ls[j] && decide (last < ls[j].f0) && sharesOk rows.length ls[j].f0 (ls.drop (j + 1))) := by rw [HS.out, hdr]; rfl
      generalize ls[j] = s at x1 x2 hso hrd; have HSO := Aside0.mk hso; obtain ⟨f0, f1⟩ := s; simp only at x1 x2
      obtain ⟨W2, hW2⟩ : ∃ W2, wr.alloc (.cells #[.int .i64 f0, .int .i64 f1] 38) = W2 := ⟨_, rfl⟩
      have hb2 : Below wr.heap.size wr W2 := by rw [← hW2]; exact (Below.refl _ _).alloc (Nat.le_refl _) _
      have HB2 := Aside0.mk (below_then HB.out HB.out.size hb2); have HRC := Aside0.mk (HRT.out W2 HB2.out ⟨f0, f1⟩); have HW2 := Aside0.mk hW2
      have n0 : W2.cell? ⟨wr.heap.size, 0, none⟩ = some (.int .i64 f0) := by rw [← hW2]; simp only [World.cell?]; rw [World.alloc_heap_new]; rfl
      have n1 : W2.cell? ⟨wr.heap.size, 1, none⟩ = some (.int .i64 f1) := by rw [← hW2]; simp only [World.cell?]; rw [World.alloc_heap_new]; rfl
      have n2 : wr.heap.size < W2.heap.size := by rw [← hW2]; simp
      have HN := Aside0.mk (And.intro n0 n2); clear hso hrd hdr hW2 hb2 n0 n1 n2
      cases hrb : rightS rows.length ⟨f0, f1⟩ with
      | false =>
        rw [hrb] at HRC
        have HF : Aside0 (sharesOk rows.length (-1) ls = false) := ⟨by rw [HSO.out, hrb]; rfl⟩
        clear hrb; go_wp2_with (go_at_call 91; rw [HW2.out]; refine HRC.out.mono ?_; rintro e w3 ⟨rfl, hb3⟩; have HB3 := Aside0.mk (below_then HB2.out HB2.out.size hb3); have n0 := (hb3.cell (p := ⟨wr.heap.size, 0, none⟩) HN.out.2).trans HN.out.1; clear hb3 HRC)
        go_ret3
        refine ⟨?_, HB0.out.trans (HB3.out.mono HB0.out.size)⟩
        rw [HRQ.out, HF.out]; rfl
      | true =>
        rw [hrb] at HRC
        by_cases hle : f0 ≤ last
        · have hlb : decide (f0 ≤ last) = true := decide_eq_true hle
          have HF : Aside0 (sharesOk rows.length (-1) ls = false) := ⟨by rw [HSO.out, decide_eq_false (show ¬ last < f0 by omega), Bool.and_false, Bool.false_and]⟩
          clear hrb hle; go_wp2_with (go_at_call 91; rw [HW2.out]; refine HRC.out.mono ?_; rintro e w3 ⟨rfl, hb3⟩; have HB3 := Aside0.mk (below_then HB2.out HB2.out.size hb3); have n0 := (hb3.cell (p := ⟨wr.heap.size, 0, none⟩) HN.out.2).trans HN.out.1; clear hb3 HRC)
          go_ret3
          refine ⟨?_, HB0.out.trans (HB3.out.mono HB0.out.size)⟩
          rw [HRQ.out, HF.out]; rfl
        · have hlb : decide (f0 ≤ last) = false := decide_eq_false hle
          have HF : Aside0 (sharesOk rows.length (-1) ls = sharesOk rows.length f0 (ls.drop (j + 1))) := ⟨by rw [HSO.out, hrb, decide_eq_true (show last < f0 by omega)]; rfl⟩
          clear hrb hle; go_wp2_with (go_at_call 91; rw [HW2.out]; refine HRC.out.mono ?_; rintro e w3 ⟨rfl, hb3⟩; have HB3 := Aside0.mk (below_then HB2.out HB2.out.size hb3); have n0 := (hb3.cell (p := ⟨wr.heap.size, 0, none⟩) HN.out.2).trans HN.out.1; clear hb3 HRC)
          go_roundg (ls.length - (j + 1))
          case measure => omega
          case rel => exact ⟨j + 1, f0, by omega, rfl, by first | rfl | rw [wrap_nextB (by omega)], rfl, HF, HB3⟩
    · obtain rfl : j = ls.length := by omega
      have d1 : decide ((ls.length : Int) < (ls.length : Int)) = false := decide_eq_false (by omega)
      have hso : sharesOk rows.length (-1) ls = true := by rw [HS.out, List.drop_length]; rfl
      have hrec : res = recT rows ls := by rw [HRQ.out, hso]; rfl
      obtain ⟨hk1, hk2, hk3, hk4⟩ := combOk_rec HK.out hso
      have hcol0 : 0 < colsP rows := by rw [targetP_length] at hk3; exact hk3
      have hcol1 : colsP rows ≤ 64 := by rw [targetP_length] at hk4; exact hk4
      have HCO := Aside0.mk (fun (W : World) (hb : Below W0.heap.size W0 W) => dealing_columns.calls A0 c0 rows A1 c1 owners (colsP rows : Int) W (Kd.C_below HR0.out hb) hc0 (Kd.C_below HR1.out hb) hc1 cols_math); have HK1 := Aside0.mk hk1; have HK2 := Aside0.mk hk2; have HK3 := Aside0.mk hk3; have HK4 := Aside0.mk hk4; have HREC := Aside0.mk hrec; have HSO := Aside0.mk hso; have htl := targetP_length rows; have htp : targetP rows = (List.replicate (colsP rows) 0).set 0 1 := rfl; have HTL := Aside0.mk htl; have HTP := Aside0.mk htp; have HRW := Aside0.mk (show (rowsOf rows ls).length = ls.length from List.length_map _); generalize hn : colsP rows = n at HCO hcol0 hcol1 HTL HTP; have hmk := print_make (P := Try.prog) 23 3 .i64 8 (by kernel_rfl) (by kernel_rfl) (by decide) n (by omega)
      have hm0 : (madeCells #[Value.int .i64 0] n)[0]? = some (.int .i64 0) := by simp [madeCells, hcol0]
      clear hk1 hk2 hk3 hk4 hrec hso htl htp hn; go_wp2_with (go_at_call 84; refine (HCO.out _ HB.out).mono ?_; rintro e w3 ⟨rfl, hb3⟩; have HB3 := Aside0.mk (below_then HB.out HB.out.size hb3); have r0 := (hb3.cell (p := ⟨w.heap.size, 0, none⟩) q1).trans r0; have r1 := (hb3.cell (p := ⟨w.heap.size, 1, none⟩) q1).trans r1; have q3 : w.heap.size < w3.heap.size := Nat.lt_of_lt_of_le q1 hb3.size; clear hb3); have hcells := mk_target n; rw [← HTP.out] at hcells; rw [hcells]
      obtain ⟨W4, hW4⟩ : ∃ W4, w3.alloc (.cells (nums .i64 (targetP rows)).toArray 3) = W4 := ⟨_, rfl⟩
      rw [hW4]
      have ho4 : W4.ownsRow w3.heap.size 3 1 (.slice (some ⟨w3.heap.size, 0, none⟩) (targetP rows).length (targetP rows).length) (targetP rows).length (nums .i64 (targetP rows)) := by
        rw [← hW4]; exact own_lit w3 w3.heap.size 3 .i64 (targetP rows) (Nat.le_refl _) (by have := HK4.out; omega)
      have hb4 : Below w3.heap.size w3 W4 := by rw [← hW4]; exact (Below.refl _ _).alloc (Nat.le_refl _) _
      have HB4 := Aside0.mk (below_then HB3.out HB3.out.size hb4); obtain ⟨A4, c4, e4, hc4, hC4⟩ := Kd.R_reads (R_of_owns (ok := fun _ => True) ho4 (fun _ _ => trivial)); injection e4 with e4 _ e5; subst e4 e5; have HT4 := Aside0.mk hC4; have r0' := (hb4.cell (p := ⟨w.heap.size, 0, none⟩) q3).trans r0; have q4 := Nat.lt_of_lt_of_le q3 hb4.size; have HLN := Aside0.mk (show (targetP rows).length = n from HTL.out); clear hcells hW4 ho4 hb4 hC4 hc4 r0 r1 hmk hm0 HCO; refine (rows_c _ _ _ _ _ _ _ _ _ _).mono ?_; rintro e w5 ⟨rfl, hw5⟩
      have hb5 : Below W4.heap.size W4 w5 := by rw [hw5]; exact ((Below.refl _ _).alloc (Nat.le_refl _) _).alloc (by simp) _
      have g1 : w5.cell? ⟨W4.heap.size + 1, 0, none⟩ = some (.slice As ls.length cs) := by
        rw [hw5]
        simp
      have g2 : w5.cell? ⟨W4.heap.size, 0, none⟩ = some (.slice A0 rows.length c0) := by
        rw [hw5]
        have h1 : (W4.alloc (.cells #[.slice A0 rows.length c0, .slice A1 owners.length c1] 25)).cell? ⟨W4.heap.size, 0, none⟩ = some (.slice A0 rows.length c0) := by
          simp only [World.cell?]; rw [World.alloc_heap_new]; rfl
        exact (((Below.refl _ (W4.alloc (.cells #[.slice A0 rows.length c0, .slice A1 owners.length c1] 25))).alloc (Nat.le_refl _) (.cells #[.slice As ls.length cs] 26)).cell (p := ⟨W4.heap.size, 0, none⟩) (by simp)).trans h1
      have HB5 := Aside0.mk (below_then HB4.out HB4.out.size hb5); have HB45 := Aside0.mk hb5; have hall := sharesOk_all ls _ HSO.out
      have hin : ∀ s ∈ ls, 0 ≤ s.f0 ∧ s.f0 < (rows.length : Int) := fun s hx => by
        have := hall s hx; simp only [rightS, Bool.and_eq_true, decide_eq_true_eq] at this; exact this.1
      have hadr : 0 < ls.length → A0 = some (A0.getD ⟨0, 0, none⟩) := fun h => by
        obtain ⟨h1, h2⟩ := hin _ (List.getElem_mem h); obtain ⟨ad, _, _, e, _⟩ := at_L1 HR0.out ls[0].f0 h1 h2
        rw [e]; rfl
      have HIT := Aside0.mk (rows1_it w5 (W4.heap.size + 1) W4.heap.size As cs ls A0 (A0.getD ⟨0, 0, none⟩) c0 rows g1 g2 hadr (Kd.C_below HRS.out HB5.out) (Kd.C_below HR0.out HB5.out) hin); have HGE := Aside0.mk (hb5.size)
      obtain ⟨yv, hyv⟩ : ∃ yv, yv = ls.map fun s => (w5.cell? ((A0.getD ⟨0, 0, none⟩).add s.f0.toNat)).getD undef := ⟨_, rfl⟩
      rw [← hyv] at HIT
      have hyat : ∀ i, i < (rowsOf rows ls).length → ∃ A c, yv[i]? = some (.slice A ((rowsOf rows ls).getD i []).length c) ∧ ((rowsOf rows ls).getD i []).length ≤ c ∧ Kd.C (Kd.int .i64) w5 A ((rowsOf rows ls).getD i []).length ((rowsOf rows ls).getD i []) := fun i hi => by
        rw [HRW.out] at hi; obtain ⟨h1, h2⟩ := hin _ (List.getElem_mem hi); obtain ⟨ad, A, c, e, x1, x2, x3⟩ := at_L1 (Kd.C_below HR0.out HB5.out) ls[i].f0 h1 h2
        have er : (rowsOf rows ls).getD i [] = rd_L1 rows ls[i].f0 := by
          unfold rowsOf rd_L1
          rw [List.getD_eq_getElem?_getD, List.getElem?_map, List.getElem?_eq_getElem hi]; rfl
        rw [er]; refine ⟨A, c, ?_, x2, x3⟩; rw [hyv, List.getElem?_map, List.getElem?_eq_getElem hi]; rw [show A0.getD ⟨0, 0, none⟩ = ad from by rw [e]; rfl]
        simp [x1]
      have hyl : yv.length = ls.length := by rw [hyv, List.length_map]
      have hysl : ∀ v ∈ yv, ∃ A n c, v = Value.slice A n c := fun v hv => by
        obtain ⟨i, hi, rfl⟩ := List.getElem_of_mem hv; obtain ⟨A, c, h1, _⟩ := hyat i (by rw [HRW.out, ← hyl]; exact hi); rw [List.getElem?_eq_getElem hi] at h1; injection h1 with h1; exact ⟨A, _, c, h1⟩
      have hl64 : yv.length ≤ 64 := by have := HK2.out; rw [HRW.out] at this; omega
      have HCL := Aside0.mk (collect_c (g := 171) (fun args w => enters_ Try.func171 (by kernel_rfl) rfl args w) HIT.out hysl (by omega)); have HYA := Aside0.mk hyat; have HYL := Aside0.mk hyl; clear hw5 hb5 g1 g2 hall hin hadr hyv hyat hysl hyl hl64 HIT r0'; go_wp2_with fail; refine HCL.out.mono ?_; rintro e w6 ⟨v6, rfl, ho6, hb6⟩; have HB6 := Aside0.mk (below_then HB5.out HB5.out.size hb6)
      obtain ⟨A6, c6, rfl, hc6, hC6⟩ := C_of_own ho6 (HYL.out.trans HRW.out.symm) (by have := HK2.out; omega) (fun i hi => by
        obtain ⟨A, c, x1, x2, x3⟩ := HYA.out i hi
        exact ⟨A, c, x1, x2, Kd.C_below x3 hb6⟩)
      have hC4' := Kd.C_below (Kd.C_below HT4.out HB45.out) hb6; have HCB := combine_c A6 c6 (rowsOf rows ls) (some ⟨w3.heap.size, 0, none⟩) (targetP rows).length (targetP rows) w6 hC6 hc6 hC4' (Nat.le_refl _) HK1.out HK2.out HK3.out HK4.out; rw [HLN.out] at HCB; unfold CombPost at HCB; have hrec := HREC.out; unfold recT at hrec; have HCB := Aside0.mk HCB; clear ho6 hb6 hC6 hC4' HCL HYA HYL
      cases hcmb : Sig.combine (rowsOf rows ls) (targetP rows) with
      | none =>
        rw [hcmb] at hrec HCB; have HREC2 := Aside0.mk hrec; clear hrec hcmb; go_wp2_with fail; refine HCB.out.mono ?_; rintro e w7 ⟨v7, rfl, hR7, hb7⟩; obtain ⟨A7, c7, rfl, _, _⟩ := Kd.R_reads hR7; have HB7 := Aside0.mk (below_then HB6.out HB6.out.size hb7); clear hR7 hb7 HCB; go_wp2
        go_ret3
        refine ⟨by rw [HREC2.out]; rfl, ?_⟩; have h7 := HB0.out.trans (HB7.out.mono HB0.out.size); exact h7.alloc h7.size _
      | some y =>
        rw [hcmb] at hrec HCB; have hyl := Sig.combine_length hcmb; rw [HRW.out] at hyl; have HREC2 := Aside0.mk hrec; have HYL2 := Aside0.mk hyl; clear hrec hcmb hyl; go_wp2_with fail; refine HCB.out.mono ?_; rintro e w7 ⟨v7, rfl, hR7, hb7⟩; obtain ⟨A7, c7, rfl, _, hC7⟩ := Kd.R_reads hR7; have HB7 := Aside0.mk (below_then HB6.out HB6.out.size hb7)
        obtain ⟨W8, hW8⟩ : ∃ W8, w7.alloc (.cells #[.slice A7 y.length c7] 23) = W8 := ⟨_, rfl⟩
        have hb8 : Below w7.heap.size w7 W8 := by rw [← hW8]; exact (Below.refl _ _).alloc (Nat.le_refl _) _
        have hx8 : Bx W8 w7.heap.size (.slice A7 y.length c7) := by rw [← hW8]; exact Bx.new _ _ _
        have HB8 := Aside0.mk (below_then HB7.out HB7.out.size hb8); have HC8 := Aside0.mk (Kd.C_below hC7 hb8); have HX8 := Aside0.mk hx8; have HW8 := Aside0.mk hW8
        have HSM := Aside0.mk (sumShare_c (g := 96) (fun args w => enters_ Try.func96 (by kernel_rfl) rfl args w) ⟨w7.heap.size, 0, none⟩ (fun i => y.getD i 0 * (rd_T38 ls (i : Int)).f1 % 1073741789) As cs ls W8 (Kd.C_below HRS.out HB8.out) (fun i W hi hW =>
          recover1_c w7.heap.size A7 c7 y i (rd_T38 ls (i : Int)).f0 (rd_T38 ls (i : Int)).f1 W (HX8.out.below hW).1 (Kd.C_below HC8.out hW) (by rw [HYL2.out]; exact hi)))
        have hmf : ∀ (fn : Fn) (first cap : Array Value) (w : World), (Instr.makeFunc fn first cap).run Try.prog w = .ok (.func fn first cap) w := fun _ _ _ _ => rfl
        clear hR7 hb7 hC7 HCB hW8 hb8 hx8; go_wp2_with (go_at_call 95; rw [HW8.out]; refine HSM.out.mono ?_; rintro e w9 ⟨rfl, hb9⟩; have HB9 := Aside0.mk (below_then HB8.out HB8.out.size hb9); clear hb9)
        go_ret3
        refine ⟨by rw [HREC2.out]; rfl, ?_⟩; exact HB0.out.trans (HB9.out.mono HB0.out.size)
def dealing_Recover.f (l0_0 : List (List Int)) (l0_1 : List Int) (l1 : List S38) : Option (Int × Bool × Int) := some (recQ l0_0 l0_1 l1)
theorem dealing_Recover.calls (A0_0 : Option Addr) (c0_0 : Nat) (l0_0 : List (List Int)) (A0_1 : Option Addr) (c0_1 : Nat) (l0_1 : List Int) (A1 : Option Addr) (c1 : Nat) (l1 : List S38) (r1 : Int) (r2 : Bool) (r3 : Int) (w : World) (hr0_0 : Kd.C (Kd.slice 3 (Kd.int .i64)) w A0_0 l0_0.length l0_0) (hc0_0 : l0_0.length ≤ c0_0) (hr0_1 : Kd.C (Kd.int .i64) w A0_1 l0_1.length l0_1) (hc0_1 : l0_1.length ≤ c0_1) (hr1 : Kd.C k38 w A1 l1.length l1) (hc1 : l1.length ≤ c1) (h : dealing_Recover.f l0_0 l0_1 l1 = some (r1, r2, r3)) :
    Calls Try.prog 24 #[.agg #[.slice A0_0 l0_0.length c0_0, .slice A0_1 l0_1.length c0_1], .slice A1 l1.length c1] w fun e w' => e = .returned (.tuple #[.int .i64 r1, .bool r2, .int .i64 r3]) ∧ Below w.heap.size w w' := by
  have h : recQ l0_0 l0_1 l1 = (r1, r2, r3) := Option.some.inj h
  by_cases hk : checkP l0_0 l0_1 = 0
  · have := recover_good A0_0 c0_0 l0_0 A0_1 c0_1 l0_1 A1 c1 l1 w hr0_0 hc0_0 hr0_1 hc0_1 hr1 hc1 hk
    rw [h] at this; exact this
  · have := recover_bad A0_0 c0_0 l0_0 A0_1 c0_1 l0_1 A1 c1 l1 w hr0_0 hc0_0 hr0_1 hc0_1 hk
    unfold recQ at h; rw [if_neg hk] at h; cases h; exact this
end Go.Proofs.Ytdbamhckgaoibaa.P
namespace Go.Proofs.Ytdbamhckgaoibaa.P
open Go.RowKit Go.Proofs.YtdbamhckgaoibaaW.PrintWords Go.Proofs.YtdbamhckgaoibaaW.PrintLast Go.Proofs.YtdbamhckgaoibaaW.PrintMore
set_option linter.unusedVariables false
def dealing_Deal.f (l0_0 : List (List Int)) (l0_1 : List Int) (a1 : Int) (l2 : List Int) : Option (List S38 × List Int × Int) := some (dealQ l0_0 l0_1 a1 l2)
theorem dealing_Deal.calls (A0_0 : Option Addr) (c0_0 : Nat) (l0_0 : List (List Int)) (A0_1 : Option Addr) (c0_1 : Nat) (l0_1 : List Int) (a1 : Int) (A2 : Option Addr) (c2 : Nat) (l2 : List Int) (r1 : List (S38)) (r2 : List Int) (r3 : Int) (w : World) (hr0_0 : Kd.C (Kd.slice 3 (Kd.int .i64)) w A0_0 l0_0.length l0_0) (hc0_0 : l0_0.length ≤ c0_0) (hr0_1 : Kd.C (Kd.int .i64) w A0_1 l0_1.length l0_1) (hc0_1 : l0_1.length ≤ c0_1) (hr2 : Kd.C (Kd.int .i64) w A2 l2.length l2) (hc2 : l2.length ≤ c2) (h : dealing_Deal.f l0_0 l0_1 a1 l2 = some (r1, r2, r3)) :
    Calls Try.prog 22 #[.agg #[.slice A0_0 l0_0.length c0_0, .slice A0_1 l0_1.length c0_1], .int .i64 a1, .slice A2 l2.length c2] w fun e w' => ∃ v0_ v1_ : Value, e = .returned (.tuple #[v0_, v1_, .int .i64 r3]) ∧ Kd.R k38 38 w' w.heap.size (fun _ => True) v0_ r1 ∧ Kd.R (Kd.int .i64) 3 w' w.heap.size (fun _ => True) v1_ r2 ∧ Below w.heap.size w w' := by
  have h : dealQ l0_0 l0_1 a1 l2 = (r1, r2, r3) := Option.some.inj h; have := deal_w (secret := a1) (w := w) ⟨hc0_0, hr0_0⟩ ⟨hc0_1, hr0_1⟩ ⟨hc2, hr2⟩; rw [h] at this; refine this.mono ?_; rintro e w' ⟨v0, v1, rfl, g0, g1, hb⟩; exact ⟨v0, v1, rfl, Kd.R_mono g0 (fun _ _ => trivial), Kd.R_mono g1 (fun _ _ => trivial), hb⟩
end Go.Proofs.Ytdbamhckgaoibaa.P
