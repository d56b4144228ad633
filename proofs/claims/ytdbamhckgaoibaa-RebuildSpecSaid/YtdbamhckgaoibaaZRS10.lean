/- A part of the proof of RebuildSpec: The calls of signatoryref40.Rows, signatorylaw40.masked come to what their functions in Lean say.; RebuildHidden: what the law reckons, in plain words.; The calls of signatoryref40.Some, signatoryref40.Plan come to what their functions in Lean say.; The contracts of chapter 34's functions, for slices that are only read.; The sanity examples of chapter 40, reckoned.; The sanity function of chapter 40 returns true. -/
import Derived.Test.YtdbamhckgaoibaaZRS9
namespace Go.Proofs.Ytdbamhckgaoibaa.P
open Go.RowKit Go.Proofs.YtdbamhckgaoibaaW.PrintWords Go.Proofs.YtdbamhckgaoibaaW.PrintLast Go.Proofs.YtdbamhckgaoibaaW.PrintMore
attribute [local go_sem] max2_int min2_int max_two min_two max_three min_three max_four min_four
set_option linter.unusedVariables false
set_option linter.unusedSimpArgs false
def signatoryref40_Rows.l0 : Nat → Int → List Int → Int → List (List Int) → List Int → Option (Bool)
 | 0, _, _, _, _, _ => none
 | k + 1, x1, x2, x7, x440000, x440001 => if x7 < (x2.length : Int) then (if 0 ≤ x7 then (if (rd x2 x7) < 0 then (some false) else (if (rd x2 x7) ≥ (x440000.length : Int) then (some false) else (if (rd x2 x7) = x1 then (some false) else (if x7 > 0 then (if 0 ≤ (wrap64 (x7 - 1)) then (if (wrap64 (x7 - 1)) < (x2.length : Int) then (if (rd x2 (wrap64 (x7 - 1))) ≥ (rd x2 x7) then (some false) else (signatoryref40_Rows.l0 k x1 x2 (wrap64 (x7 + 1)) x440000 x440001)) else (none)) else (none)) else (signatoryref40_Rows.l0 k x1 x2 (wrap64 (x7 + 1)) x440000 x440001))))) else (none)) else (if x1 ≥ 0 then (some (decide (x1 < (x440000.length : Int)))) else (some false))
def signatoryref40_Rows.f (k : Nat) (l0_0 : List (List Int)) (l0_1 : List Int) (a1 : Int) (l2 : List Int) : Option (Bool) := signatoryref40_Rows.l0 k a1 l2 0 l0_0 l0_1
set_option maxHeartbeats 8000000 in
set_option maxRecDepth 100000 in
theorem signatoryref40_Rows.calls (k : Nat) (A0_0 : Option Addr) (c0_0 : Nat) (l0_0 : List (List Int)) (A0_1 : Option Addr) (c0_1 : Nat) (l0_1 : List Int) (a1 : Int) (A2 : Option Addr) (c2 : Nat) (l2 : List Int) (r : Bool) (w : World) (hr0_0 : Kd.C (Kd.slice 3 (Kd.int .i64)) w A0_0 l0_0.length l0_0) (hc0_0 : l0_0.length ≤ c0_0) (hr0_1 : Kd.C (Kd.int .i64) w A0_1 l0_1.length l0_1) (hc0_1 : l0_1.length ≤ c0_1) (hr2 : Kd.C (Kd.int .i64) w A2 l2.length l2) (hc2 : l2.length ≤ c2) (h : signatoryref40_Rows.f k l0_0 l0_1 a1 l2 = some r) :
  Calls Try.prog 59 #[.agg #[.slice A0_0 l0_0.length c0_0, .slice A0_1 l0_1.length c0_1], .int .i64 a1, .slice A2 l2.length c2] w fun e w' => e = .returned (.bool r) ∧ Below w.heap.size w w' := by
 have hu25 := Try.underlying25; have HR0_0 := Aside0.mk hr0_0; have HC0_0 := Aside0.mk hc0_0; clear hr0_0 hc0_0; have HR0_1 := Aside0.mk hr0_1; have HC0_1 := Aside0.mk hc0_1; clear hr0_1 hc0_1; have HR2 := Aside0.mk hr2; have HC2 := Aside0.mk hc2; clear hr2 hc2; have HB := Aside0.mk (Below.refl w.heap.size w); have H : (signatoryref40_Rows.l0 k a1 l2 0 l0_0 l0_1) = some r := h; clear h; have H' := Aside0.mk H; clear H
 go_enter Try.func59, Try.ntmps59
 go_wp2_with (first | ((with_reducible refine gate_dst (N := 3) rfl ?_); (try (refine gate_guard (by rfl) ?_; dsimp only)); refine box_event ?hg (N := 3) ?hd (cs := #[.slice A0_0 l0_0.length c0_0, .slice A0_1 l0_1.length c0_1]) (t := 25) ?hr ?_; (case hd => rfl); (case hg => rfl); (case hr => first | (go_simp; done) | (go_simp; rfl)); intro gb439 hg w4 hbox hb; have n0_ := Aside0.mk (below_step (by repeat (first | (with_reducible first | exact HB.out | apply below_alloc | apply pw_below_drewN | apply below_drew1) | exact HB.out)) hb); have n1_ := Aside0.mk (hbox); have n2_ := Aside0.mk ((by rw [hg]; exact (below_size (by repeat (first | (with_reducible first | exact HB.out | apply below_alloc | apply pw_below_drewN | apply below_drew1) | exact HB.out))) : w.heap.size ≤ gb439)); have n3_ := Aside0.mk ((by rw [hg]; exact (below_size (by repeat (first | (with_reducible first | exact HB.out | apply below_alloc | apply pw_below_drewN | apply below_drew1) | exact HB.out))) : w.heap.size ≤ gb439)); clear HB; have HB := n0_; have BK439 := n1_; have GW439 := n2_; have GE439 := n3_; clear n0_ n1_ n2_ n3_; clear hb hbox hg))
 repeat (go_quiet (first | ((with_reducible refine gate_dst (N := 3) rfl ?_); (try (refine gate_guard (by rfl) ?_; dsimp only)); refine box_event ?hg (N := 3) ?hd (cs := #[.slice A0_0 l0_0.length c0_0, .slice A0_1 l0_1.length c0_1]) (t := 25) ?hr ?_; (case hd => rfl); (case hg => rfl); (case hr => first | (go_simp; done) | (go_simp; rfl)); intro gb439 hg w4 hbox hb; have n0_ := Aside0.mk (below_step (by repeat (first | (with_reducible first | exact HB.out | apply below_alloc | apply pw_below_drewN | apply below_drew1) | exact HB.out)) hb); have n1_ := Aside0.mk (hbox); have n2_ := Aside0.mk ((by rw [hg]; exact (below_size (by repeat (first | (with_reducible first | exact HB.out | apply below_alloc | apply pw_below_drewN | apply below_drew1) | exact HB.out))) : w.heap.size ≤ gb439)); have n3_ := Aside0.mk ((by rw [hg]; exact (below_size (by repeat (first | (with_reducible first | exact HB.out | apply below_alloc | apply pw_below_drewN | apply below_drew1) | exact HB.out))) : w.heap.size ≤ gb439)); clear HB; have HB := n0_; have BK439 := n1_; have GW439 := n2_; have GE439 := n3_; clear n0_ n1_ n2_ n3_; clear hb hbox hg)); try go_wp2_with (first | ((with_reducible refine gate_dst (N := 3) rfl ?_); (try (refine gate_guard (by rfl) ?_; dsimp only)); refine box_event ?hg (N := 3) ?hd (cs := #[.slice A0_0 l0_0.length c0_0, .slice A0_1 l0_1.length c0_1]) (t := 25) ?hr ?_; (case hd => rfl); (case hg => rfl); (case hr => first | (go_simp; done) | (go_simp; rfl)); intro gb439 hg w4 hbox hb; have n0_ := Aside0.mk (below_step (by repeat (first | (with_reducible first | exact HB.out | apply below_alloc | apply pw_below_drewN | apply below_drew1) | exact HB.out)) hb); have n1_ := Aside0.mk (hbox); have n2_ := Aside0.mk ((by rw [hg]; exact (below_size (by repeat (first | (with_reducible first | exact HB.out | apply below_alloc | apply pw_below_drewN | apply below_drew1) | exact HB.out))) : w.heap.size ≤ gb439)); have n3_ := Aside0.mk ((by rw [hg]; exact (below_size (by repeat (first | (with_reducible first | exact HB.out | apply below_alloc | apply pw_below_drewN | apply below_drew1) | exact HB.out))) : w.heap.size ≤ gb439)); clear HB; have HB := n0_; have BK439 := n1_; have GW439 := n2_; have GE439 := n3_; clear n0_ n1_ n2_ n3_; clear hb hbox hg)))
 go_loopg [7] k (fun kq v7 w' => ∃ (x7_1 : Int), v7 = .int .i64 x7_1 ∧ Aside0 (signatoryref40_Rows.l0 kq a1 l2 x7_1 l0_0 l0_1 = some r) ∧ Aside0 (kq ≤ k) ∧ Aside0 (w'.heap[gb439]? = some (.cells #[(.slice A0_0 l0_0.length c0_0), (.slice A0_1 l0_1.length c0_1)] 25 (0, 0))) ∧ Aside0 (Below w.heap.size w w'))
 case atStart => exact ⟨(0), (by first | rfl | (simp; done) | (simp [*]; done)), H', ⟨Nat.le_refl _⟩, ⟨by (with_reducible repeat (first | refine blk_drewN ?_ _ | refine blk_drew ?_ | refine blk_alloc ?_ _)); exact BK439.out⟩, ⟨by repeat (first | (with_reducible first | exact HB.out | apply below_alloc | apply pw_below_drewN | apply below_drew1 | refine below_set ?_ GE439.out) | exact HB.out)⟩⟩
 case round =>
  clear H'; (try clear c2); (try clear p2); obtain ⟨x7_1, rfl, HA, HK1, BK439, HB⟩ := hrel
  cases gk with
  | zero => exact absurd HA.out (by simp [signatoryref40_Rows.l0])
  | succ k1 =>
   have H := HA.out; clear HA; simp only [signatoryref40_Rows.l0] at H
   by_cases c5 : x7_1 < (l2.length : Int)
   ·rw [if_pos c5] at H
    have c5b0 : decide (x7_1 < (l2.length : Int)) = true := decide_eq_true c5; clear c5
    by_cases c6 : 0 ≤ x7_1
    ·rw [if_pos c6] at H
     have c6b0 : decide (0 ≤ x7_1) = true := decide_eq_true c6; clear c6
     by_cases c7 : (rd l2 x7_1) < 0
     ·rw [if_pos c7] at H
      have c7b0 : decide ((rd l2 x7_1) < 0) = true := decide_eq_true c7; clear c7; obtain rfl := Option.some.inj H; have p440 : 0 ≤ (x7_1 : Int) := of_decide_eq_true (by first | (with_reducible assumption) | assumption); have q440 : x7_1 < (l2.length : Int) := of_decide_eq_true (by first | (with_reducible assumption) | assumption); obtain ⟨ad440, e440, hx440_0⟩ := Kd.at_int HR2.out x7_1 p440 q440; cases e440; replace hx440_0 := (HB.out.cell (World.block_lt_of_cell? w _ hx440_0)).trans hx440_0; replace p440 := eq_true p440; replace q440 := eq_true q440; go_wp2
      repeat (go_quiet (fail); try go_wp2)
      go_ret
      exact ⟨by first | rfl | (simp [errW_none, errW_some] <;> rfl) | (simp [*, errW_none, errW_some] <;> rfl), by repeat (first | (with_reducible first | exact HB.out | apply below_alloc | apply pw_below_drewN | apply below_drew1 | refine below_set ?_ GE439.out) | exact HB.out)⟩
     ·rw [if_neg c7] at H
      have c7b0 : decide ((rd l2 x7_1) < 0) = false := decide_eq_false c7; clear c7
      by_cases c8 : (rd l2 x7_1) ≥ (l0_0.length : Int)
      ·rw [if_pos c8] at H
       have c8b0 : decide ((l0_0.length : Int) ≤ (rd l2 x7_1)) = true := decide_eq_true c8; clear c8; obtain rfl := Option.some.inj H; have p440 : 0 ≤ (x7_1 : Int) := of_decide_eq_true (by first | (with_reducible assumption) | assumption); have q440 : x7_1 < (l2.length : Int) := of_decide_eq_true (by first | (with_reducible assumption) | assumption); obtain ⟨ad440, e440, hx440_0⟩ := Kd.at_int HR2.out x7_1 p440 q440; cases e440; replace hx440_0 := (HB.out.cell (World.block_lt_of_cell? w _ hx440_0)).trans hx440_0; replace p440 := eq_true p440; replace q440 := eq_true q440; have p441 : 0 ≤ (x7_1 : Int) := of_decide_eq_true (by first | (with_reducible assumption) | assumption); have q441 : x7_1 < (l2.length : Int) := of_decide_eq_true (by first | (with_reducible assumption) | assumption); obtain ⟨ad441, e441, hx441_0⟩ := Kd.at_int HR2.out x7_1 p441 q441
       obtain rfl : ad440 = ad441 := (by injection e441)
       replace hx441_0 := (HB.out.cell (World.block_lt_of_cell? w _ hx441_0)).trans hx441_0; replace p441 := eq_true p441; replace q441 := eq_true q441; have hcz9_0 : wr.cell? ⟨gb439, 0, none⟩ = some (.slice A0_0 l0_0.length c0_0) := (blk_cell BK439.out 0).trans rfl; have hcz9_1 : wr.cell? ⟨gb439, 1, none⟩ = some (.slice A0_1 l0_1.length c0_1) := (blk_cell BK439.out 1).trans rfl; have hfz9_0 := blk_frozen BK439.out 0; have hfz9_1 := blk_frozen BK439.out 1; go_wp2
       repeat (go_quiet (fail); try go_wp2)
       go_ret
       exact ⟨by first | rfl | (simp [errW_none, errW_some] <;> rfl) | (simp [*, errW_none, errW_some] <;> rfl), by repeat (first | (with_reducible first | exact HB.out | apply below_alloc | apply pw_below_drewN | apply below_drew1 | refine below_set ?_ GE439.out) | exact HB.out)⟩
      ·rw [if_neg c8] at H
       have c8b0 : decide ((l0_0.length : Int) ≤ (rd l2 x7_1)) = false := decide_eq_false c8; clear c8
       by_cases c10 : (rd l2 x7_1) = a1
       ·rw [if_pos c10] at H
        have c10b0 : ((rd l2 x7_1) == a1) = true := beq_iff_eq.mpr c10; have c10b1 : ((rd l2 x7_1) != a1) = false := bne_eq_false_iff_eq.mpr c10; clear c10; obtain rfl := Option.some.inj H; have p440 : 0 ≤ (x7_1 : Int) := of_decide_eq_true (by first | (with_reducible assumption) | assumption); have q440 : x7_1 < (l2.length : Int) := of_decide_eq_true (by first | (with_reducible assumption) | assumption); obtain ⟨ad440, e440, hx440_0⟩ := Kd.at_int HR2.out x7_1 p440 q440; cases e440; replace hx440_0 := (HB.out.cell (World.block_lt_of_cell? w _ hx440_0)).trans hx440_0; replace p440 := eq_true p440; replace q440 := eq_true q440; have p441 : 0 ≤ (x7_1 : Int) := of_decide_eq_true (by first | (with_reducible assumption) | assumption); have q441 : x7_1 < (l2.length : Int) := of_decide_eq_true (by first | (with_reducible assumption) | assumption); obtain ⟨ad441, e441, hx441_0⟩ := Kd.at_int HR2.out x7_1 p441 q441
        obtain rfl : ad440 = ad441 := (by injection e441)
        replace hx441_0 := (HB.out.cell (World.block_lt_of_cell? w _ hx441_0)).trans hx441_0; replace p441 := eq_true p441; replace q441 := eq_true q441; have hcz11_0 : wr.cell? ⟨gb439, 0, none⟩ = some (.slice A0_0 l0_0.length c0_0) := (blk_cell BK439.out 0).trans rfl; have hcz11_1 : wr.cell? ⟨gb439, 1, none⟩ = some (.slice A0_1 l0_1.length c0_1) := (blk_cell BK439.out 1).trans rfl; have hfz11_0 := blk_frozen BK439.out 0; have hfz11_1 := blk_frozen BK439.out 1; have p442 : 0 ≤ (x7_1 : Int) := of_decide_eq_true (by first | (with_reducible assumption) | assumption); have q442 : x7_1 < (l2.length : Int) := of_decide_eq_true (by first | (with_reducible assumption) | assumption); obtain ⟨ad442, e442, hx442_0⟩ := Kd.at_int HR2.out x7_1 p442 q442
        obtain rfl : ad440 = ad442 := (by injection e442)
        replace hx442_0 := (HB.out.cell (World.block_lt_of_cell? w _ hx442_0)).trans hx442_0; replace p442 := eq_true p442; replace q442 := eq_true q442; go_wp2
        repeat (go_quiet (fail); try go_wp2)
        go_ret
        exact ⟨by first | rfl | (simp [errW_none, errW_some] <;> rfl) | (simp [*, errW_none, errW_some] <;> rfl), by repeat (first | (with_reducible first | exact HB.out | apply below_alloc | apply pw_below_drewN | apply below_drew1 | refine below_set ?_ GE439.out) | exact HB.out)⟩
       ·rw [if_neg c10] at H
        have c10b0 : ((rd l2 x7_1) == a1) = false := beq_eq_false_iff_ne.mpr c10; have c10b1 : ((rd l2 x7_1) != a1) = true := bne_iff_ne.mpr c10
        by_cases c12 : x7_1 > 0
        ·rw [if_pos c12] at H
         have c12b0 : decide (0 < x7_1) = true := decide_eq_true c12; clear c12
         obtain ⟨ji13, hji13⟩ : ∃ j_ : Int, (wrap64 (x7_1 - 1)) = j_ := ⟨_, rfl⟩
         replace H : (if 0 ≤ (ji13) then (if (ji13) < (l2.length : Int) then (if (rd l2 (ji13)) ≥ (rd l2 x7_1) then (some false) else (signatoryref40_Rows.l0 k1 a1 l2 (wrap64 (x7_1 + 1)) l0_0 l0_1)) else (none)) else (none)) = some r := by first | (rw [hji13] at H; exact H) | (simp only [hji13] at H ⊢; exact H)
         have hji13w : (IntKind.i64.wrap (x7_1 - 1)) = ji13 := (i64_w _).trans hji13
         by_cases c14 : 0 ≤ (ji13)
         ·rw [if_pos c14] at H
          have c14b0 : decide (0 ≤ (ji13)) = true := decide_eq_true c14; clear c14
          by_cases c15 : (ji13) < (l2.length : Int)
          ·rw [if_pos c15] at H
           have c15b0 : decide ((ji13) < (l2.length : Int)) = true := decide_eq_true c15; clear c15
           by_cases c16 : (rd l2 (ji13)) ≥ (rd l2 x7_1)
           ·rw [if_pos c16] at H
            have c16b0 : decide ((rd l2 x7_1) ≤ (rd l2 (ji13))) = true := decide_eq_true c16; clear c16; obtain rfl := Option.some.inj H; have p440 : 0 ≤ (x7_1 : Int) := of_decide_eq_true (by first | (with_reducible assumption) | assumption); have q440 : x7_1 < (l2.length : Int) := of_decide_eq_true (by first | (with_reducible assumption) | assumption); obtain ⟨ad440, e440, hx440_0⟩ := Kd.at_int HR2.out x7_1 p440 q440; cases e440; replace hx440_0 := (HB.out.cell (World.block_lt_of_cell? w _ hx440_0)).trans hx440_0; replace p440 := eq_true p440; replace q440 := eq_true q440; have p441 : 0 ≤ (x7_1 : Int) := of_decide_eq_true (by first | (with_reducible assumption) | assumption); have q441 : x7_1 < (l2.length : Int) := of_decide_eq_true (by first | (with_reducible assumption) | assumption); obtain ⟨ad441, e441, hx441_0⟩ := Kd.at_int HR2.out x7_1 p441 q441
            obtain rfl : ad440 = ad441 := (by injection e441)
            replace hx441_0 := (HB.out.cell (World.block_lt_of_cell? w _ hx441_0)).trans hx441_0; replace p441 := eq_true p441; replace q441 := eq_true q441; have hcz17_0 : wr.cell? ⟨gb439, 0, none⟩ = some (.slice A0_0 l0_0.length c0_0) := (blk_cell BK439.out 0).trans rfl; have hcz17_1 : wr.cell? ⟨gb439, 1, none⟩ = some (.slice A0_1 l0_1.length c0_1) := (blk_cell BK439.out 1).trans rfl; have hfz17_0 := blk_frozen BK439.out 0; have hfz17_1 := blk_frozen BK439.out 1; have p442 : 0 ≤ (x7_1 : Int) := of_decide_eq_true (by first | (with_reducible assumption) | assumption); have q442 : x7_1 < (l2.length : Int) := of_decide_eq_true (by first | (with_reducible assumption) | assumption); obtain ⟨ad442, e442, hx442_0⟩ := Kd.at_int HR2.out x7_1 p442 q442
            obtain rfl : ad440 = ad442 := (by injection e442)
            replace hx442_0 := (HB.out.cell (World.block_lt_of_cell? w _ hx442_0)).trans hx442_0; replace p442 := eq_true p442; replace q442 := eq_true q442; have p443 : 0 ≤ ((ji13) : Int) := of_decide_eq_true (by first | (with_reducible assumption) | assumption); have q443 : (ji13) < (l2.length : Int) := of_decide_eq_true (by first | (with_reducible assumption) | assumption); obtain ⟨ad443, e443, hx443_0⟩ := Kd.at_int HR2.out (ji13) p443 q443
            obtain rfl : ad440 = ad443 := (by injection e443)
            replace hx443_0 := (HB.out.cell (World.block_lt_of_cell? w _ hx443_0)).trans hx443_0; replace p443 := eq_true p443; replace q443 := eq_true q443; have p444 : 0 ≤ (x7_1 : Int) := of_decide_eq_true (by first | (with_reducible assumption) | assumption); have q444 : x7_1 < (l2.length : Int) := of_decide_eq_true (by first | (with_reducible assumption) | assumption); obtain ⟨ad444, e444, hx444_0⟩ := Kd.at_int HR2.out x7_1 p444 q444
            obtain rfl : ad440 = ad444 := (by injection e444)
            replace hx444_0 := (HB.out.cell (World.block_lt_of_cell? w _ hx444_0)).trans hx444_0; replace p444 := eq_true p444; replace q444 := eq_true q444; go_wp2
            repeat (go_quiet (fail); try go_wp2)
            go_ret
            exact ⟨by first | rfl | (simp [errW_none, errW_some] <;> rfl) | (simp only [← hji13]; first | rfl | (simp [errW_none, errW_some] <;> rfl)) | (simp [*, errW_none, errW_some] <;> rfl), by repeat (first | (with_reducible first | exact HB.out | apply below_alloc | apply pw_below_drewN | apply below_drew1 | refine below_set ?_ GE439.out) | exact HB.out)⟩
           ·rw [if_neg c16] at H
            have c16b0 : decide ((rd l2 x7_1) ≤ (rd l2 (ji13))) = false := decide_eq_false c16; clear c16; have H' := Aside0.mk H; clear H; have p440 : 0 ≤ (x7_1 : Int) := of_decide_eq_true (by first | (with_reducible assumption) | assumption); have q440 : x7_1 < (l2.length : Int) := of_decide_eq_true (by first | (with_reducible assumption) | assumption); obtain ⟨ad440, e440, hx440_0⟩ := Kd.at_int HR2.out x7_1 p440 q440; cases e440; replace hx440_0 := (HB.out.cell (World.block_lt_of_cell? w _ hx440_0)).trans hx440_0; replace p440 := eq_true p440; replace q440 := eq_true q440; have p441 : 0 ≤ (x7_1 : Int) := of_decide_eq_true (by first | (with_reducible assumption) | assumption); have q441 : x7_1 < (l2.length : Int) := of_decide_eq_true (by first | (with_reducible assumption) | assumption); obtain ⟨ad441, e441, hx441_0⟩ := Kd.at_int HR2.out x7_1 p441 q441
            obtain rfl : ad440 = ad441 := (by injection e441)
            replace hx441_0 := (HB.out.cell (World.block_lt_of_cell? w _ hx441_0)).trans hx441_0; replace p441 := eq_true p441; replace q441 := eq_true q441; have hcz18_0 : wr.cell? ⟨gb439, 0, none⟩ = some (.slice A0_0 l0_0.length c0_0) := (blk_cell BK439.out 0).trans rfl; have hcz18_1 : wr.cell? ⟨gb439, 1, none⟩ = some (.slice A0_1 l0_1.length c0_1) := (blk_cell BK439.out 1).trans rfl; have hfz18_0 := blk_frozen BK439.out 0; have hfz18_1 := blk_frozen BK439.out 1; have p442 : 0 ≤ (x7_1 : Int) := of_decide_eq_true (by first | (with_reducible assumption) | assumption); have q442 : x7_1 < (l2.length : Int) := of_decide_eq_true (by first | (with_reducible assumption) | assumption); obtain ⟨ad442, e442, hx442_0⟩ := Kd.at_int HR2.out x7_1 p442 q442
            obtain rfl : ad440 = ad442 := (by injection e442)
            replace hx442_0 := (HB.out.cell (World.block_lt_of_cell? w _ hx442_0)).trans hx442_0; replace p442 := eq_true p442; replace q442 := eq_true q442; have p443 : 0 ≤ ((ji13) : Int) := of_decide_eq_true (by first | (with_reducible assumption) | assumption); have q443 : (ji13) < (l2.length : Int) := of_decide_eq_true (by first | (with_reducible assumption) | assumption); obtain ⟨ad443, e443, hx443_0⟩ := Kd.at_int HR2.out (ji13) p443 q443
            obtain rfl : ad440 = ad443 := (by injection e443)
            replace hx443_0 := (HB.out.cell (World.block_lt_of_cell? w _ hx443_0)).trans hx443_0; replace p443 := eq_true p443; replace q443 := eq_true q443; have p444 : 0 ≤ (x7_1 : Int) := of_decide_eq_true (by first | (with_reducible assumption) | assumption); have q444 : x7_1 < (l2.length : Int) := of_decide_eq_true (by first | (with_reducible assumption) | assumption); obtain ⟨ad444, e444, hx444_0⟩ := Kd.at_int HR2.out x7_1 p444 q444
            obtain rfl : ad440 = ad444 := (by injection e444)
            replace hx444_0 := (HB.out.cell (World.block_lt_of_cell? w _ hx444_0)).trans hx444_0; replace p444 := eq_true p444; replace q444 := eq_true q444; go_wp2
            repeat (go_quiet (fail); try go_wp2)
            go_roundg k1
            case measure => have := HK1.out; omega
            case rel => exact ⟨(wrap64 (x7_1 + 1)), (by first | rfl | (simp; done) | (simp [*]; done)), H', ⟨by have := HK1.out; omega⟩, ⟨by (with_reducible repeat (first | refine blk_drewN ?_ _ | refine blk_drew ?_ | refine blk_alloc ?_ _)); exact BK439.out⟩, ⟨by repeat (first | (with_reducible first | exact HB.out | apply below_alloc | apply pw_below_drewN | apply below_drew1 | refine below_set ?_ GE439.out) | exact HB.out)⟩⟩
          ·rw [if_neg c15] at H
           exact absurd H (by simp)
         ·rw [if_neg c14] at H
          exact absurd H (by simp)
        ·rw [if_neg c12] at H
         have c12b0 : decide (0 < x7_1) = false := decide_eq_false c12; clear c12; have H' := Aside0.mk H; clear H; have p440 : 0 ≤ (x7_1 : Int) := of_decide_eq_true (by first | (with_reducible assumption) | assumption); have q440 : x7_1 < (l2.length : Int) := of_decide_eq_true (by first | (with_reducible assumption) | assumption); obtain ⟨ad440, e440, hx440_0⟩ := Kd.at_int HR2.out x7_1 p440 q440; cases e440; replace hx440_0 := (HB.out.cell (World.block_lt_of_cell? w _ hx440_0)).trans hx440_0; replace p440 := eq_true p440; replace q440 := eq_true q440; have p441 : 0 ≤ (x7_1 : Int) := of_decide_eq_true (by first | (with_reducible assumption) | assumption); have q441 : x7_1 < (l2.length : Int) := of_decide_eq_true (by first | (with_reducible assumption) | assumption); obtain ⟨ad441, e441, hx441_0⟩ := Kd.at_int HR2.out x7_1 p441 q441
         obtain rfl : ad440 = ad441 := (by injection e441)
         replace hx441_0 := (HB.out.cell (World.block_lt_of_cell? w _ hx441_0)).trans hx441_0; replace p441 := eq_true p441; replace q441 := eq_true q441; have hcz19_0 : wr.cell? ⟨gb439, 0, none⟩ = some (.slice A0_0 l0_0.length c0_0) := (blk_cell BK439.out 0).trans rfl; have hcz19_1 : wr.cell? ⟨gb439, 1, none⟩ = some (.slice A0_1 l0_1.length c0_1) := (blk_cell BK439.out 1).trans rfl; have hfz19_0 := blk_frozen BK439.out 0; have hfz19_1 := blk_frozen BK439.out 1; have p442 : 0 ≤ (x7_1 : Int) := of_decide_eq_true (by first | (with_reducible assumption) | assumption); have q442 : x7_1 < (l2.length : Int) := of_decide_eq_true (by first | (with_reducible assumption) | assumption); obtain ⟨ad442, e442, hx442_0⟩ := Kd.at_int HR2.out x7_1 p442 q442
         obtain rfl : ad440 = ad442 := (by injection e442)
         replace hx442_0 := (HB.out.cell (World.block_lt_of_cell? w _ hx442_0)).trans hx442_0; replace p442 := eq_true p442; replace q442 := eq_true q442; go_wp2
         repeat (go_quiet (fail); try go_wp2)
         go_roundg k1
         case measure => have := HK1.out; omega
         case rel => exact ⟨(wrap64 (x7_1 + 1)), (by first | rfl | (simp; done) | (simp [*]; done)), H', ⟨by have := HK1.out; omega⟩, ⟨by (with_reducible repeat (first | refine blk_drewN ?_ _ | refine blk_drew ?_ | refine blk_alloc ?_ _)); exact BK439.out⟩, ⟨by repeat (first | (with_reducible first | exact HB.out | apply below_alloc | apply pw_below_drewN | apply below_drew1 | refine below_set ?_ GE439.out) | exact HB.out)⟩⟩
    ·rw [if_neg c6] at H
     exact absurd H (by simp)
   ·rw [if_neg c5] at H
    have c5b0 : decide (x7_1 < (l2.length : Int)) = false := decide_eq_false c5; clear c5
    by_cases c20 : a1 ≥ 0
    ·rw [if_pos c20] at H
     have c20b0 : decide (0 ≤ a1) = true := decide_eq_true c20; clear c20; obtain rfl := Option.some.inj H; have hcz21_0 : wr.cell? ⟨gb439, 0, none⟩ = some (.slice A0_0 l0_0.length c0_0) := (blk_cell BK439.out 0).trans rfl; have hcz21_1 : wr.cell? ⟨gb439, 1, none⟩ = some (.slice A0_1 l0_1.length c0_1) := (blk_cell BK439.out 1).trans rfl; have hfz21_0 := blk_frozen BK439.out 0; have hfz21_1 := blk_frozen BK439.out 1; go_wp2
     repeat (go_quiet (fail); try go_wp2)
     go_ret
     exact ⟨by first | rfl | (simp [errW_none, errW_some] <;> rfl) | (simp [*, errW_none, errW_some] <;> rfl), by repeat (first | (with_reducible first | exact HB.out | apply below_alloc | apply pw_below_drewN | apply below_drew1 | refine below_set ?_ GE439.out) | exact HB.out)⟩
    ·rw [if_neg c20] at H
     have c20b0 : decide (0 ≤ a1) = false := decide_eq_false c20; clear c20; obtain rfl := Option.some.inj H; go_wp2
     repeat (go_quiet (fail); try go_wp2)
     go_ret
     exact ⟨by first | rfl | (simp [errW_none, errW_some] <;> rfl) | (simp [*, errW_none, errW_some] <;> rfl), by repeat (first | (with_reducible first | exact HB.out | apply below_alloc | apply pw_below_drewN | apply below_drew1 | refine below_set ?_ GE439.out) | exact HB.out)⟩
end Go.Proofs.Ytdbamhckgaoibaa.P
namespace Go.Proofs.Ytdbamhckgaoibaa.P
open Go.RowKit Go.Proofs.YtdbamhckgaoibaaW.PrintWords Go.Proofs.YtdbamhckgaoibaaW.PrintLast Go.Proofs.YtdbamhckgaoibaaW.PrintMore
def rowsFrom (n : Nat) (row : Int) : Int → List Int → Bool
  | _, [] => decide (0 ≤ row) && decide (row < n)
  | last, r :: l => if last < r ∧ r < n ∧ r ≠ row then rowsFrom n row r l else false
theorem rows40_l0 (rows : List (List Int)) (owners : List Int) (row : Int) (idx : List Int) (hn : rows.length ≤ 64) (k : Nat) : ∀ (m j : Nat) (last : Int), (rows.length : Int) - 1 - last ≤ m → (j : Int) ≤ last + 1 → last < rows.length →
    (j = 0 ∧ last = -1 ∨ 0 < j ∧ idx.getD (j - 1) 0 = last ∧ 0 ≤ last) → signatoryref40_Rows.l0 (k + m + 1) row idx (j : Int) rows owners = some (rowsFrom rows.length row last (idx.drop j)) := by
  intro m
  induction m with
  | zero =>
    intro j last hm hj hl hc; rw [signatoryref40_Rows.l0]
    by_cases h : j < idx.length
    · have e1 : idx.getD j 0 = idx[j] := by rw [List.getD_eq_getElem?_getD, List.getElem?_eq_getElem h]; rfl
      rw [if_pos (by omega), if_pos (by omega), rd_nat, e1, List.drop_eq_getElem_cons h, rowsFrom]
      by_cases g1 : idx[j] < 0
      · rw [if_pos g1, if_neg (by omega)]
      · rw [if_neg g1]
        by_cases g2 : idx[j] ≥ (rows.length : Int)
        · rw [if_pos g2, if_neg (by omega)]
        · rw [if_neg g2]
          by_cases g3 : idx[j] = row
          · rw [if_pos g3, if_neg (by omega)]
          · rw [if_neg g3]
            rcases hc with ⟨hc, hc2⟩ | ⟨hc, hc2, hc3⟩
            · omega
            · rw [if_pos (by omega), show wrap64 ((j : Int) - 1) = ((j - 1 : Nat) : Int) by unfold wrap64; omega, if_pos (by omega), if_pos (by omega), rd_nat, hc2, if_pos (by omega), if_neg (by omega)]
    · rw [if_neg (by omega), List.drop_eq_nil_of_le (by omega), rowsFrom]
      by_cases h1 : row ≥ 0
      · rw [if_pos h1, decide_eq_true (show 0 ≤ row from h1), Bool.true_and]
      · rw [if_neg h1, decide_eq_false (show ¬ 0 ≤ row from h1), Bool.false_and]
  | succ m ih =>
    intro j last hm hj hl hc; rw [signatoryref40_Rows.l0]
    by_cases h : j < idx.length
    · have e1 : idx.getD j 0 = idx[j] := by rw [List.getD_eq_getElem?_getD, List.getElem?_eq_getElem h]; rfl
      rw [if_pos (by omega), if_pos (by omega), rd_nat, e1, List.drop_eq_getElem_cons h, rowsFrom]
      by_cases g1 : idx[j] < 0
      · rw [if_pos g1, if_neg (by omega)]
      · rw [if_neg g1]
        by_cases g2 : idx[j] ≥ (rows.length : Int)
        · rw [if_pos g2, if_neg (by omega)]
        · rw [if_neg g2]
          by_cases g3 : idx[j] = row
          · rw [if_pos g3, if_neg (by omega)]
          · rw [if_neg g3]
            have hw : wrap64 ((j : Int) + 1) = ((j + 1 : Nat) : Int) := wrap_succ (by omega)
            rcases hc with ⟨hc, hc2⟩ | ⟨hc, hc2, hc3⟩
            · rw [if_neg (by omega), if_pos (by omega), hw, show k + (m + 1) = k + m + 1 by omega]
              exact ih (j + 1) idx[j] (by omega) (by omega) (by omega) (.inr ⟨by omega, by rw [Nat.add_sub_cancel, e1], by omega⟩)
            · rw [if_pos (by omega), show wrap64 ((j : Int) - 1) = ((j - 1 : Nat) : Int) by unfold wrap64; omega, if_pos (by omega), if_pos (by omega), rd_nat, hc2]
              by_cases g4 : last ≥ idx[j]
              · rw [if_pos g4, if_neg (by omega)]
              · rw [if_neg g4, if_pos (by omega), hw, show k + (m + 1) = k + m + 1 by omega]
                exact ih (j + 1) idx[j] (by omega) (by omega) (by omega) (.inr ⟨by omega, by rw [Nat.add_sub_cancel, e1], by omega⟩)
    · rw [if_neg (by omega), List.drop_eq_nil_of_le (by omega), rowsFrom]
      by_cases h1 : row ≥ 0
      · rw [if_pos h1, decide_eq_true (show 0 ≤ row from h1), Bool.true_and]
      · rw [if_neg h1, decide_eq_false (show ¬ 0 ≤ row from h1), Bool.false_and]
theorem rows40_math (rows : List (List Int)) (owners : List Int) (row : Int) (idx : List Int) (hn : rows.length ≤ 64) (k : Nat) (hk : 100 ≤ k) : signatoryref40_Rows.f k rows owners row idx = some (rowsFrom rows.length row (-1) idx) := by
  unfold signatoryref40_Rows.f
  obtain ⟨k, rfl⟩ : ∃ k', k = k' + rows.length + 1 := ⟨k - rows.length - 1, by omega⟩
  exact rows40_l0 rows owners row idx hn k rows.length 0 (-1) (by omega) (by omega) (by omega) (.inl ⟨rfl, rfl⟩)
theorem rowsFrom_right {n : Nat} {row : Int} : ∀ {idx : List Int} {last : Int}, -1 ≤ last → rowsFrom n row last idx = true → 0 ≤ row ∧ row < n ∧ (helpRows n row last idx).length = idx.length ∧ ∀ x ∈ idx, 0 ≤ x ∧ x < n
  | [], last, _, h => by
    unfold rowsFrom at h; simp only [Bool.and_eq_true, decide_eq_true_eq] at h; exact ⟨h.1, h.2, rfl, fun _ hx => by cases hx⟩
  | r :: l, last, hl, h => by
    unfold rowsFrom at h
    split at h
    · rename_i hc
      obtain ⟨h1, h2, h3, h4⟩ := rowsFrom_right (by omega) h; refine ⟨h1, h2, ?_, fun x hx => ?_⟩
      · unfold helpRows
        rw [if_pos hc, List.length_cons, List.length_cons, h3]
      · rcases List.mem_cons.1 hx with rfl | hx
        · exact ⟨by omega, hc.2.1⟩
        · exact h4 x hx
    · cases h
theorem inQ_of {x : Int} : inQ x = true ↔ 0 ≤ x ∧ x < 1073741789 := by
  unfold inQ; simp only [Bool.and_eq_true, decide_eq_true_eq]
theorem prodQ {x y : Int} (hx : inQ x = true) (hy : inQ y = true) : 0 ≤ x * y ∧ x * y ≤ 1152921504606846976 := by
  rw [inQ_of] at hx hy; refine ⟨Int.mul_nonneg hx.1 hy.1, ?_⟩; exact Int.le_trans (Int.mul_le_mul (show x ≤ 1073741788 by omega) (show y ≤ 1073741788 by omega) hy.1 (by omega)) (by omega)
theorem tm {z : Int} (h0 : 0 ≤ z) (h1 : z ≤ 9223372036854775807) : Int.tmod (wrap64 z) 1073741789 = z % 1073741789 := by rw [wrap_small h0 h1, Int.tmod_eq_emod_of_nonneg h0]
end Go.Proofs.Ytdbamhckgaoibaa.P
namespace Go.Proofs.Ytdbamhckgaoibaa.P
open Go.RowKit Go.Proofs.YtdbamhckgaoibaaW.PrintWords Go.Proofs.YtdbamhckgaoibaaW.PrintLast Go.Proofs.YtdbamhckgaoibaaW.PrintMore
attribute [local go_sem] max2_int min2_int max_two min_two max_three min_three max_four min_four
set_option linter.unusedVariables false
set_option linter.unusedSimpArgs false
def signatoryref40_Some.l0 : Nat → List Int → List (List Int) → Int → List (List Int) → List Int → Option ((List (List Int)))
 | 0, _, _, _, _, _ => none
 | k + 1, x1, x5, x6, x442000, x442001 => if x6 < (x1.length : Int) then (if 0 ≤ x6 then (if 0 ≤ (rd x1 x6) then (if (rd x1 x6) < (x442000.length : Int) then (if x5.length < 5864062014805 then (signatoryref40_Some.l0 k x1 (x5 ++ [rd_L1 x442000 (rd x1 x6)]) (wrap64 (x6 + 1)) x442000 x442001) else (none)) else (none)) else (none)) else (none)) else (some x5)
def signatoryref40_Some.f (k : Nat) (l0_0 : List (List Int)) (l0_1 : List Int) (l1 : List Int) : Option ((List (List Int))) := signatoryref40_Some.l0 k l1 (([] : List (List Int))) 0 l0_0 l0_1
def signatoryref40_Some.T5 : Bool × List (List Nat × List Nat) := (true, [([], []), ([], []), ([1], [1]), ([], []), ([], []), ([3, 4], [3, 4]), ([5], [5]), ([2, 6], [2, 6]), ([7], [7]), ([8], [8]), ([0, 9], [0, 9]), ([10, 10, 0, 1, 2, 3, 4, 5, 6, 7, 8, 9, 10], [0, 10])])
def signatoryref40_Some.B5 : List Nat := [0, 0, 2, 0, 0, 24, 56, 126, 254, 510, 1023, 2047]
theorem signatoryref40_Some.tab5 : rtab .any (opsOf Try.f64 5) = signatoryref40_Some.T5 := by kernel_rfl
theorem signatoryref40_Some.bits5 : waitsOk signatoryref40_Some.T5.2 signatoryref40_Some.B5 = true := by kernel_rfl
set_option maxHeartbeats 8000000 in
set_option maxRecDepth 100000 in
theorem signatoryref40_Some.calls (k : Nat) (P0_0_ : Nat → Prop) (A0_0 : Option Addr) (c0_0 : Nat) (l0_0 : List (List Int)) (A0_1 : Option Addr) (c0_1 : Nat) (l0_1 : List Int) (A1 : Option Addr) (c1 : Nat) (l1 : List Int) (r : List (List Int)) (w : World) (hs0_0 : Kd.V (Kd.slice 3 (Kd.int .i64)) 23 w w.heap.size (fun k_ => P0_0_ k_) (.slice A0_0 l0_0.length c0_0) l0_0) (hr0_1 : Kd.C (Kd.int .i64) w A0_1 l0_1.length l0_1) (hc0_1 : l0_1.length ≤ c0_1) (hr1 : Kd.C (Kd.int .i64) w A1 l1.length l1) (hc1 : l1.length ≤ c1) (h : signatoryref40_Some.f k l0_0 l0_1 l1 = some r) :
  Calls Try.prog 64 #[.agg #[.slice A0_0 l0_0.length c0_0, .slice A0_1 l0_1.length c0_1], .slice A1 l1.length c1] w fun e w' => ∃ v0_ : Value, e = .returned (v0_) ∧ Kd.N (Kd.slice 3 (Kd.int .i64)) 23 w' w.heap.size (fun k_ => (P0_0_ k_ ∨ w.heap.size ≤ k_)) v0_ r ∧ Below w.heap.size w w' := by
 have hu25 := Try.underlying25; have HO0_0 := Aside0.mk (show Kd.V (Kd.slice 3 (Kd.int .i64)) 23 w w.heap.size (fun k_ => (P0_0_ k_ ∨ w.heap.size ≤ k_)) (.slice A0_0 l0_0.length c0_0) l0_0 from Kd.V_mono hs0_0 (fun k_ hk => .inl hk)); have HR0_1 := Aside0.mk hr0_1; have HC0_1 := Aside0.mk hc0_1; clear hr0_1 hc0_1; have HR1 := Aside0.mk hr1; have HC1 := Aside0.mk hc1; clear hr1 hc1; have HB := Aside0.mk (Below.refl w.heap.size w); have H : (signatoryref40_Some.l0 k l1 (([] : List (List Int))) 0 l0_0 l0_1) = some r := h; clear h
 obtain ⟨y442, hy442⟩ : ∃ y_ : List (List Int), y_ = (([] : List (List Int))) := ⟨_, rfl⟩
 replace H : (signatoryref40_Some.l0 k l1 y442 0 l0_0 l0_1) = some r := by first | (rw [hy442]; with_reducible exact H) | (have H2_ := (Option.bind_some _ _).symm.trans H; rw [hy442]; with_reducible exact H2_) | (have H2_ := (Option.bind_some _ _).symm.trans H; with_reducible exact H2_) | with_reducible exact H | (rw [hy442]; exact H) | exact H
 have Ny442 := Aside0.mk hy442; clear hy442; have H' := Aside0.mk H; clear H
 go_enter Try.func64, Try.ntmps64
 go_wp2_with (first | ((with_reducible refine gate_dst (N := 2) rfl ?_); refine box_event ?hg (N := 2) ?hd (cs := #[.slice A0_0 l0_0.length c0_0, .slice A0_1 l0_1.length c0_1]) (t := 25) ?hr ?_; (case hd => rfl); (case hg => rfl); (case hr => first | (go_simp; done) | (go_simp; rfl)); intro gb441 hg w3 hbox hb; have n0_ := Aside0.mk (Kd.V_below (Kd.V_elderB (by (with_reducible repeat (first | apply Kd.V_alloc | apply Kd.V_drewN | apply Kd.V_drew)); exact HO0_0.out) gb441 (Nat.le_of_eq hg.symm)) hb); have n1_ := Aside0.mk (below_step (by repeat (first | (with_reducible first | exact HB.out | apply below_alloc | apply pw_below_drewN | apply below_drew1) | exact HB.out)) hb); have n2_ := Aside0.mk (hbox); have n3_ := Aside0.mk ((by rw [hg]; exact (below_size (by repeat (first | (with_reducible first | exact HB.out | apply below_alloc | apply pw_below_drewN | apply below_drew1) | exact HB.out))) : w.heap.size ≤ gb441)); have n4_ := Aside0.mk ((by rw [hg]; exact (below_size (by repeat (first | (with_reducible first | exact HB.out | apply below_alloc | apply pw_below_drewN | apply below_drew1) | exact HB.out))) : w.heap.size ≤ gb441)); clear HO0_0; clear HB; have HO0_0 := n0_; have HB := n1_; have BK441 := n2_; have GW441 := n3_; have GE441 := n4_; clear n0_ n1_ n2_ n3_ n4_; clear hb hbox hg) | ((with_reducible refine gate_dst (N := 7) rfl ?_); refine Kd.N_lit (Kd.slice 3 (Kd.int .i64)) _ 23 ?hg (N' := 7) ?hd (xs := ([] : List (List Int))) (inner := []) (ok := (fun k_ => (P0_0_ k_ ∨ w.heap.size ≤ k_) ∧ k_ ≠ gb441)) (okp := (fun k_ => (P0_0_ k_ ∨ w.heap.size ≤ k_) ∧ k_ ≠ gb441)) ?hr ?hp (fun _ hk => hk) ((show ∀ k_, w3.heap.size ≤ k_ → (fun k_ => (P0_0_ k_ ∨ w.heap.size ≤ k_) ∧ k_ ≠ gb441) k_ from fun k_ hk => ⟨(.inr (Nat.le_trans (below_size (by repeat (first | (with_reducible first | exact HB.out | apply below_alloc | apply pw_below_drewN | apply below_drew1 | refine below_set ?_ GE441.out) | exact HB.out))) hk)), Kd.freshB (g := gb441) (o := .cells #[.slice A0_0 l0_0.length c0_0, .slice A0_1 l0_1.length c0_1] 25 (0, 0)) (by (with_reducible repeat (first | refine blk_drewN ?_ _ | refine blk_drew ?_ | refine blk_alloc ?_ _)); exact BK441.out) k_ hk⟩) _ (Nat.le_refl _)) (Below.refl _ _) (Nat.le_refl _) (by simp) ?_; (case hd => rfl); (case hg => rfl); (case hr => first | (go_simp; done) | (go_simp; rfl)); (case hp => exact (Reps.none _ _)); intro v443 w4 ho5 hb hg_ hnew_; clear hg_ hnew_; (first | rw [← Ny442.out] at ho5 | (simp only [Int.reduceToNat] at ho5; rw [← Ny442.out] at ho5)); have n0_ := Aside0.mk (Kd.V_elder' (by (with_reducible repeat (first | apply Kd.V_alloc | apply Kd.V_drewN | apply Kd.V_drew)); exact HO0_0.out) (Kd.N_base ho5) hb); have n1_ := Aside0.mk (Kd.N_lower ho5 (below_size (by repeat (first | (with_reducible first | exact HB.out | apply below_alloc | apply pw_below_drewN | apply below_drew1 | refine below_set ?_ GE441.out) | exact HB.out)))); have n2_ := Aside0.mk (blk_below (g := gb441) (o := .cells #[.slice A0_0 l0_0.length c0_0, .slice A0_1 l0_1.length c0_1] 25 (0, 0)) (by (with_reducible repeat (first | refine blk_drewN ?_ _ | refine blk_drew ?_ | refine blk_alloc ?_ _)); exact BK441.out) hb); have n3_ := Aside0.mk (below_step (by repeat (first | (with_reducible first | exact HB.out | apply below_alloc | apply pw_below_drewN | apply below_drew1 | refine below_set ?_ GE441.out) | exact HB.out)) hb); clear HO0_0; clear BK441; clear HB; have HO0_0 := n0_; have HO444 := n1_; have BK441 := n2_; have HB := n3_; clear n0_ n1_ n2_ n3_; clear hb ho5))
 go_loopg [5, 6] k (fun kq v5 v6 w' => ∃ (x5_1 : List (List Int)) (x6_1 : Int), v6 = .int .i64 x6_1 ∧ Aside0 (signatoryref40_Some.l0 kq l1 x5_1 x6_1 l0_0 l0_1 = some r) ∧ Aside0 (kq ≤ k) ∧ Aside0 (Kd.N (Kd.slice 3 (Kd.int .i64)) 23 w' w.heap.size (fun k_ => (P0_0_ k_ ∨ w.heap.size ≤ k_) ∧ k_ ≠ gb441) v5 x5_1) ∧ Aside0 (Kd.V (Kd.slice 3 (Kd.int .i64)) 23 w' w.heap.size (fun k_ => (P0_0_ k_ ∨ w.heap.size ≤ k_) ∧ some k_ ≠ (v5 : Value).ownBlock ∧ k_ ≠ gb441) (.slice A0_0 l0_0.length c0_0) l0_0) ∧ Aside0 (w'.heap[gb441]? = some (.cells #[(.slice A0_0 l0_0.length c0_0), (.slice A0_1 l0_1.length c0_1)] 25 (0, 0))) ∧ Aside0 (Below w.heap.size w w'))
 case atStart => exact ⟨(y442), (0), (by first | rfl | (simp; done) | (simp [*]; done)), H', ⟨Nat.le_refl _⟩, ⟨by (with_reducible repeat (first | apply Kd.N_alloc | apply Kd.N_drewN | apply Kd.N_drew)); exact HO444.out⟩, ⟨by (with_reducible repeat (first | apply Kd.V_alloc | apply Kd.V_drewN | apply Kd.V_drew)); exact Kd.V_mono HO0_0.out (fun _ hk => ⟨hk.1.1, ⟨hk.2, hk.1.2⟩⟩)⟩, ⟨by (with_reducible repeat (first | refine blk_drewN ?_ _ | refine blk_drew ?_ | refine blk_alloc ?_ _)); exact BK441.out⟩, ⟨by repeat (first | (with_reducible first | exact HB.out | apply below_alloc | apply pw_below_drewN | apply below_drew1 | refine below_set ?_ GE441.out) | exact HB.out)⟩⟩
 case round =>
  clear H'; (try clear c1); (try clear p2); obtain ⟨x5_1, x6_1, rfl, HA, HK1, HO_5, HO_442000, BK441, HB⟩ := hrel
  cases gk with
  | zero => exact absurd HA.out (by simp [signatoryref40_Some.l0])
  | succ k1 =>
   have H := HA.out; clear HA; simp only [signatoryref40_Some.l0] at H
   by_cases c6 : x6_1 < (l1.length : Int)
   ·rw [if_pos c6] at H
    have c6b0 : decide (x6_1 < (l1.length : Int)) = true := decide_eq_true c6; clear c6
    by_cases c7 : 0 ≤ x6_1
    ·rw [if_pos c7] at H
     have c7b0 : decide (0 ≤ x6_1) = true := decide_eq_true c7; clear c7
     by_cases c8 : 0 ≤ (rd l1 x6_1)
     ·rw [if_pos c8] at H
      have c8b0 : decide (0 ≤ (rd l1 x6_1)) = true := decide_eq_true c8; clear c8
      by_cases c9 : (rd l1 x6_1) < (l0_0.length : Int)
      ·rw [if_pos c9] at H
       have c9b0 : decide ((rd l1 x6_1) < (l0_0.length : Int)) = true := decide_eq_true c9; clear c9
       by_cases c10 : x5_1.length < 5864062014805
       ·rw [if_pos c10] at H
        have LMc10 := Aside0.mk c10; clear c10
        obtain ⟨y447, hy447⟩ : ∃ y_ : List (List Int), y_ = (x5_1 ++ [rd_L1 l0_0 (rd l1 x6_1)]) := ⟨_, rfl⟩
        replace H : (signatoryref40_Some.l0 k1 l1 y447 (wrap64 (x6_1 + 1)) l0_0 l0_1) = some r := by first | (rw [hy447]; with_reducible exact H) | (have H2_ := (Option.bind_some _ _).symm.trans H; rw [hy447]; with_reducible exact H2_) | (have H2_ := (Option.bind_some _ _).symm.trans H; with_reducible exact H2_) | with_reducible exact H | (rw [hy447]; exact H) | exact H
        have Ny447 := Aside0.mk hy447; clear hy447; have H' := Aside0.mk H; clear H
        try go_wp2
        have n0_ := Aside0.mk (Kd.N_drew HO_5.out); have n1_ := Aside0.mk (Kd.V_drew HO_442000.out); have n2_ := Aside0.mk (blk_drew BK441.out); have n3_ := Aside0.mk (below_drew1 HB.out); clear HO_5; clear HO_442000; clear BK441; clear HB; have HO_5 := n0_; have HO_442000 := n1_; have BK441 := n2_; have HB := n3_; clear n0_ n1_ n2_ n3_; have p445 : 0 ≤ (x6_1 : Int) := of_decide_eq_true (by first | (with_reducible assumption) | assumption); have q445 : x6_1 < (l1.length : Int) := of_decide_eq_true (by first | (with_reducible assumption) | assumption); obtain ⟨ad445, e445, hx445_0⟩ := Kd.at_int HR1.out x6_1 p445 q445; have hw445_0 := hx445_0; cases e445; replace hx445_0 := (HB.out.cell (World.block_lt_of_cell? w _ hx445_0)).trans hx445_0; replace p445 := eq_true p445; replace q445 := eq_true q445; have p446 : 0 ≤ ((rd l1 x6_1) : Int) := of_decide_eq_true (by first | (with_reducible assumption) | assumption); have q446 : (rd l1 x6_1) < (l0_0.length : Int) := of_decide_eq_true (by first | (with_reducible assumption) | assumption); obtain ⟨ad446, A446_0, c446_0, e446, hx446_0, hl446_0, hi446_0⟩ := at_L1 (Kd.V_reads' HO_442000.out).2.2 (rd l1 x6_1) p446 q446; cases e446; obtain ⟨ce446, hce446, hMe446, hcc446⟩ := Kd.V_get HO_442000.out [] (rd l1 x6_1) p446 (by first | exact q446 | exact of_decide_eq_true (by first | (with_reducible assumption) | assumption) | (have e_ := (Kd.V_reads' HO_442000.out).1; omega)); obtain ⟨ua446_0, uc446_0, rfl, ul446_0, ge446_0⟩ := Kd.FK_slice_open hMe446; have hv446_0 := hcc446 0 _ rfl; rw [Nat.add_zero, show ((Kd.slice 3 (Kd.int .i64))).sz = 1 from rfl, Nat.mul_one] at hv446_0; replace hv446_0 := Option.some.inj (hv446_0.symm.trans hx446_0); injection hv446_0 with hva_ hvn_ hvc_; rw [hva_] at ge446_0; rw [hvc_] at ul446_0; have HL446_0 := Aside0.mk (show Kd.V (Kd.int .i64) 3 _ w.heap.size _ _ (rd_L1 l0_0 (rd l1 x6_1)) from Kd.V_mk ul446_0 ge446_0); clear hva_ hvn_ hvc_ ge446_0 ul446_0; clear hcc446 hce446; have HR446_0 := Aside0.mk hi446_0; have HC446_0 := Aside0.mk hl446_0; clear hi446_0 hl446_0; replace p446 := eq_true p446; replace q446 := eq_true q446
        refine start_ (n := 12) (S := fun w' => w'.cell? ⟨gb441, 0, none⟩ = some (.slice (some ad446) l0_0.length c0_0) ∧ w'.cell? ⟨gb441, 1, none⟩ = some (.slice A0_1 l0_1.length c0_1) ∧ w'.cell? (ad445.add (x6_1).toNat) = some (.int .i64 (rd l1 x6_1)) ∧ w'.cell? (ad446.add ((rd l1 x6_1)).toNat) = some (.slice A446_0 (rd_L1 l0_0 (rd l1 x6_1)).length c446_0)) (ds := [9, 10]) #[false, false, false, false, false, false, false, false, false, false, false, false] (by kernel_rfl) rfl rfl ⟨(blk_cell BK441.out 0).trans rfl, (blk_cell BK441.out 1).trans rfl, ((HB.out.cell (World.block_lt_of_cell? w _ hw445_0)).trans hw445_0), hx446_0⟩ (fun hHeld => ?_); refine with_tabW signatoryref40_Some.tab5 signatoryref40_Some.bits5 (fun HT_ HW_ => ?_)
        generalize wr.drew = w11 at HO_5 HO_442000 BK441 HB HL446_0 HR446_0 hx445_0 hx446_0 hHeld ⊢; refine pure_ (i := 0) (N := some 14) (v := ?_) (a' := ?_) #[true, false, false, false, false, false, false, false, false, false, false, false] rfl rfl (any_of HT_.out (by kernel_rfl)) (fun _ _ _ h => h) (Or.inl ⟨by rfl, ?_⟩) ?_ ?_; rotate_left
        ·intro w'
         go_simp
         with_reducible rfl
        rotate_left
        ·simp only [Act.put, List.setIfInBounds_toArray, List.set_cons_zero, List.set_cons_succ, i64_w, i32_w]
         rfl
        refine pure_ (i := 1) (N := some 15) (v := ?_) (a' := ?_) #[true, true, false, false, false, false, false, false, false, false, false, false] rfl rfl (any_of HT_.out (by kernel_rfl)) (fun _ _ _ h => h) (Or.inl ⟨by rfl, ?_⟩) ?_ ?_; rotate_left
        ·intro w'
         go_simp
         with_reducible rfl
        rotate_left
        ·simp only [Act.put, List.setIfInBounds_toArray, List.set_cons_zero, List.set_cons_succ, i64_w, i32_w]
         rfl
        refine pure_ (i := 3) (N := some 17) (v := ?_) (a' := ?_) #[true, true, false, true, false, false, false, false, false, false, false, false] rfl rfl (any_of HT_.out (by kernel_rfl)) (fun _ _ _ h => h) (Or.inl ⟨by rfl, ?_⟩) ?_ ?_; rotate_left
        ·intro w'
         go_simp
         with_reducible rfl
        rotate_left
        ·simp only [Act.put, List.setIfInBounds_toArray, List.set_cons_zero, List.set_cons_succ, i64_w, i32_w]
         rfl
        refine pure_ (i := 4) (N := some 18) (v := ?_) (a' := ?_) #[true, true, false, true, true, false, false, false, false, false, false, false] rfl rfl (any_of HT_.out (by kernel_rfl)) (fun _ _ _ h => h) (Or.inl ⟨by rfl, ?_⟩) ?_ ?_; rotate_left
        ·intro w'
         go_simp
         with_reducible rfl
        rotate_left
        ·simp only [Act.put, List.setIfInBounds_toArray, List.set_cons_zero, List.set_cons_succ, i64_w, i32_w]
         rfl
        refine pure_ (i := 5) (N := some 19) (v := ?_) (a' := ?_) #[true, true, false, true, true, true, false, false, false, false, false, false] rfl rfl (any_of HT_.out (by kernel_rfl)) (fun _ _ _ h => h) (Or.inl ⟨by rfl, ?_⟩) ?_ ?_; rotate_left
        ·intro w'
         go_simp
         with_reducible rfl
        rotate_left
        ·simp only [Act.put, List.setIfInBounds_toArray, List.set_cons_zero, List.set_cons_succ, i64_w, i32_w]
         rfl
        refine take_ (i := 2) (N := some 16) (v := ?_) (a' := ?_) #[true, true, true, true, true, true, false, false, false, false, false, false] rfl rfl (take_ofW HT_.out HW_.out (by kernel_rfl)) (fun _ _ _ h => h) (Or.inl ⟨by rfl, ?_⟩) hHeld ?_ ?_; rotate_left
        ·rintro w' ⟨s0, s1, s2, s3⟩
         go_simp
         with_reducible rfl
        rotate_left
        ·simp only [Act.put, List.setIfInBounds_toArray, List.set_cons_zero, List.set_cons_succ, i64_w, i32_w]
         rfl
        refine take_ (i := 6) (N := some 20) (v := ?_) (a' := ?_) #[true, true, true, true, true, true, true, false, false, false, false, false] rfl rfl (take_ofW HT_.out HW_.out (by kernel_rfl)) (fun _ _ _ h => h) (Or.inl ⟨by rfl, ?_⟩) hHeld ?_ ?_; rotate_left
        ·rintro w' ⟨s0, s1, s2, s3⟩
         go_simp
         with_reducible rfl
        rotate_left
        ·simp only [Act.put, List.setIfInBounds_toArray, List.set_cons_zero, List.set_cons_succ, i64_w, i32_w]
         rfl
        refine pure_ (i := 7) (N := some 21) (v := ?_) (a' := ?_) #[true, true, true, true, true, true, true, true, false, false, false, false] rfl rfl (any_of HT_.out (by kernel_rfl)) (fun _ _ _ h => h) (Or.inl ⟨by rfl, ?_⟩) ?_ ?_; rotate_left
        ·intro w'
         go_simp
         with_reducible rfl
        rotate_left
        ·simp only [Act.put, List.setIfInBounds_toArray, List.set_cons_zero, List.set_cons_succ, i64_w, i32_w]
         rfl
        refine take_ (i := 8) (N := some 22) (v := ?_) (a' := ?_) #[true, true, true, true, true, true, true, true, true, false, false, false] rfl rfl (take_ofW HT_.out HW_.out (by kernel_rfl)) (fun _ _ _ h => h) (Or.inl ⟨by rfl, ?_⟩) hHeld ?_ ?_; rotate_left
        ·rintro w' ⟨s0, s1, s2, s3⟩
         go_simp
         with_reducible rfl
        rotate_left
        ·simp only [Act.put, List.setIfInBounds_toArray, List.set_cons_zero, List.set_cons_succ, i64_w, i32_w]
         rfl
        refine last_ (i := 9) (N := some 23) #[true, true, true, true, true, true, true, true, true, true, false, false] rfl rfl (one_of HT_.out (by kernel_rfl)) (by decide) (fun K hK => ?_); refine value_ (w1 := ?_) (v := ?_) (by rfl) rfl ?_ ?_; rotate_left 2
        ·go_simp
         constructor
         ·rfl
         ·rfl
        refine hK.out _ _ ?_; clear hK K; refine norm_ (a' := ?_) ?_ ?_; rotate_left
        ·show Act.put _ (some 23) _ = _
         simp only [Act.put, List.setIfInBounds_toArray, List.set_cons_zero, List.set_cons_succ, i64_w, i32_w]; rfl
        refine last_ (i := 10) (N := some 24) #[true, true, true, true, true, true, true, true, true, true, true, false] rfl rfl (one_of HT_.out (by kernel_rfl)) (by decide) (fun K hK => ?_); refine Kd.N_append_step (Kd.slice 3 (Kd.int .i64)) (w0 := w) w.heap.size (by rfl) (.tmp 14) (.tmp 23) 22 23 (.slice none 0 0) 24 rfl Try.underlying22 info23 rfl (by decide) (by omega) u5 x5_1 (rd_L1 l0_0 (rd l1 x6_1)) [.slice A446_0 (rd_L1 l0_0 (rd l1 x6_1)).length c446_0] (fun k_ => (P0_0_ k_ ∨ w.heap.size ≤ k_) ∧ k_ ≠ gb441) (fun k_ => ((fun k_ => (P0_0_ k_ ∨ w.heap.size ≤ k_) ∧ k_ ≠ gb441)) k_ ∧ some k_ ≠ (u5 : Value).ownBlock) rfl rfl ?aP (fun _ hk => hk) ?aF ?aO ?aB ?aS ?aL ?_
        (case aP => exact (Kd.FK_slice_mk (Kd.V_reads' (Kd.V_mono (ok' := (fun k_ => ((fun k_ => (P0_0_ k_ ∨ w.heap.size ≤ k_) ∧ k_ ≠ gb441)) k_ ∧ some k_ ≠ (u5 : Value).ownBlock)) (HL446_0.out) (fun k_ hk => ⟨⟨hk.1, hk.2.2⟩, hk.2.1⟩))).2.1 (Kd.V_F (Kd.V_mono (ok' := (fun k_ => ((fun k_ => (P0_0_ k_ ∨ w.heap.size ≤ k_) ∧ k_ ≠ gb441)) k_ ∧ some k_ ≠ (u5 : Value).ownBlock)) (HL446_0.out) (fun k_ hk => ⟨⟨hk.1, hk.2.2⟩, hk.2.1⟩)))))
        (case aB => exact (by repeat (first | (with_reducible first | exact HB.out | apply below_alloc | apply pw_below_drewN | apply below_drew1 | refine below_set ?_ GE441.out) | exact HB.out)))
        (case aF => exact (fun k_ hk => ⟨(.inr (Nat.le_trans (below_size (by repeat (first | (with_reducible first | exact HB.out | apply below_alloc | apply pw_below_drewN | apply below_drew1 | refine below_set ?_ GE441.out) | exact HB.out))) hk)), Kd.freshB (g := gb441) (o := .cells #[.slice (some ad446) l0_0.length c0_0, .slice A0_1 l0_1.length c0_1] 25 (0, 0)) (by (with_reducible repeat (first | refine blk_drewN ?_ _ | refine blk_drew ?_ | refine blk_alloc ?_ _)); exact BK441.out) k_ hk⟩))
        (case aO => exact (by (with_reducible repeat (first | apply Kd.N_alloc | apply Kd.N_drewN | apply Kd.N_drew)); exact HO_5.out))
        (case aS => exact (below_size (by repeat (first | (with_reducible first | exact HB.out | apply below_alloc | apply pw_below_drewN | apply below_drew1 | refine below_set ?_ GE441.out) | exact HB.out))))
        (case aL => have := LMc10.out; omega)
        intro v448 w12 ho hb hg hat; rw [← Ny447.out] at ho; have n0_ := Aside0.mk (Kd.V_afterv (ok := (fun k_ => (P0_0_ k_ ∨ w.heap.size ≤ k_) ∧ k_ ≠ gb441)) (by (with_reducible repeat (first | apply Kd.V_alloc | apply Kd.V_drewN | apply Kd.V_drew)); exact Kd.V_mono HO_442000.out (fun _ hk => ⟨⟨hk.1, hk.2.2⟩, hk.2.1⟩)) hg hat); have n1_ := Aside0.mk (blk_grown (g := gb441) (o := .cells #[.slice (some ad446) l0_0.length c0_0, .slice A0_1 l0_1.length c0_1] 25 (0, 0)) (by (with_reducible repeat (first | refine blk_drewN ?_ _ | refine blk_drew ?_ | refine blk_alloc ?_ _)); exact BK441.out) hg (Kd.N_ne HO_5.out BK441.out (by decide))); have n2_ := Aside0.mk (Kd.V_afterv (ok := (fun k_ => (P0_0_ k_ ∨ w.heap.size ≤ k_) ∧ k_ ≠ gb441)) (by (with_reducible repeat (first | apply Kd.V_alloc | apply Kd.V_drewN | apply Kd.V_drew)); exact Kd.V_mono HL446_0.out (fun _ hk => ⟨⟨hk.1, hk.2.2⟩, hk.2.1⟩)) hg hat); have n3_ := Aside0.mk (hb); have n4_ := Aside0.mk (ho); clear HO_442000; clear BK441; clear HL446_0; clear HB; clear HO_5; have HO_442000 := n0_; have BK441 := n1_; have HL446_0 := n2_; have HB := n3_; have HO449 := n4_; clear n0_ n1_ n2_ n3_ n4_; clear ho hb hg hat; refine hK.out _ _ ?_; clear hK K; refine norm_ (a' := ?_) ?_ ?_; rotate_left
        ·show Act.put _ (some 24) _ = _
         simp only [Act.put, List.setIfInBounds_toArray, List.set_cons_zero, List.set_cons_succ, i64_w, i32_w]; rfl
        refine pure_ (i := 11) (N := some 5) (v := ?_) (a' := ?_) #[true, true, true, true, true, true, true, true, true, true, true, true] rfl rfl (any_of HT_.out (by kernel_rfl)) (fun _ _ _ h => h) (Or.inl ⟨by rfl, ?_⟩) ?_ ?_; rotate_left
        ·intro w'
         go_simp
         with_reducible rfl
        rotate_left
        ·simp only [Act.put, List.setIfInBounds_toArray, List.set_cons_zero, List.set_cons_succ, i64_w, i32_w]
         rfl
        refine done_ (done_of HT_.out (by kernel_rfl)) ?_
        try go_wp2
        go_roundg k1
        case measure => have := HK1.out; omega
        case rel => exact ⟨(y447), (wrap64 (x6_1 + 1)), (by first | rfl | (simp; done) | (simp [*]; done)), H', ⟨by have := HK1.out; omega⟩, ⟨by (with_reducible repeat (first | apply Kd.N_alloc | apply Kd.N_drewN | apply Kd.N_drew)); exact HO449.out⟩, ⟨by (with_reducible repeat (first | apply Kd.V_alloc | apply Kd.V_drewN | apply Kd.V_drew)); exact Kd.V_mono HO_442000.out (fun _ hk => ⟨hk.1.1, ⟨hk.2, hk.1.2⟩⟩)⟩, ⟨by (with_reducible repeat (first | refine blk_drewN ?_ _ | refine blk_drew ?_ | refine blk_alloc ?_ _)); exact BK441.out⟩, ⟨by repeat (first | (with_reducible first | exact HB.out | apply below_alloc | apply pw_below_drewN | apply below_drew1 | refine below_set ?_ GE441.out) | exact HB.out)⟩⟩
       ·rw [if_neg c10] at H
        exact absurd H (by simp)
      ·rw [if_neg c9] at H
       exact absurd H (by simp)
     ·rw [if_neg c8] at H
      exact absurd H (by simp)
    ·rw [if_neg c7] at H
     exact absurd H (by simp)
   ·rw [if_neg c6] at H
    have c6b0 : decide (x6_1 < (l1.length : Int)) = false := decide_eq_false c6; clear c6; obtain rfl := Option.some.inj H; go_wp2
    go_ret
    exact ⟨_, by first | rfl | (simp [errW_none, errW_some] <;> rfl) | (simp [*, errW_none, errW_some] <;> rfl), by (with_reducible repeat (first | apply Kd.N_alloc | apply Kd.N_drewN | apply Kd.N_drew)); exact Kd.N_mono HO_5.out (fun _ hk => hk.1), by repeat (first | (with_reducible first | exact HB.out | apply below_alloc | apply pw_below_drewN | apply below_drew1 | refine below_set ?_ GE441.out) | exact HB.out)⟩
def signatoryref40_Plan.f (k : Nat) (l0_0 : List (List Int)) (l0_1 : List Int) (a1 : Int) (l2 : List Int) : Option (List Int × Bool × Int) := (signatoryref23_Check.f k l0_0 l0_1).bind fun t452 => (if t452 = 0 then ((signatoryref40_Rows.f k l0_0 l0_1 a1 l2).bind fun t453 => (if t453 = true then ((signatoryref40_Some.f k l0_0 l0_1 l2).bind fun t454 => (if 0 ≤ a1 then (if a1 < (l0_0.length : Int) then ((signatoryref13_Combine.f k t454 (rd_L1 l0_0 a1)).bind fun bt458 => (some (bt458.1, bt458.2.1, bt458.2.2))) else (none)) else (none))) else (some (([] : List Int), false, 1)))) else (some (([] : List Int), false, t452)))
def signatoryref40_Plan.T6 : Bool × List (List Nat × List Nat) := (true, [([], []), ([], []), ([0, 1], [0, 1]), ([], []), ([3], [3]), ([], []), ([4, 5], [4, 5]), ([6], [6]), ([2, 7, 2], [2, 7]), ([8], [8]), ([8], [8]), ([8], [8]), ([9, 8, 0, 1, 2, 3, 4, 5, 6, 7, 8, 9, 10, 11], [9]), ([10, 12, 0, 1, 2, 3, 4, 5, 6, 7, 8, 9, 10, 11, 12], [10]), ([11, 13, 0, 1, 2, 3, 4, 5, 6, 7, 8, 9, 10, 11, 12, 13], [11])])
def signatoryref40_Plan.B6 : List Nat := [0, 0, 3, 0, 8, 0, 56, 120, 255, 511, 511, 511, 4095, 8191, 16383]
theorem signatoryref40_Plan.tab6 : rtab .any (opsOf Try.f41 6) = signatoryref40_Plan.T6 := by kernel_rfl
theorem signatoryref40_Plan.bits6 : waitsOk signatoryref40_Plan.T6.2 signatoryref40_Plan.B6 = true := by kernel_rfl
set_option maxHeartbeats 8000000 in
set_option maxRecDepth 100000 in
theorem signatoryref40_Plan.calls (k : Nat) (A0_0 : Option Addr) (c0_0 : Nat) (l0_0 : List (List Int)) (A0_1 : Option Addr) (c0_1 : Nat) (l0_1 : List Int) (a1 : Int) (A2 : Option Addr) (c2 : Nat) (l2 : List Int) (r1 : List Int) (r2 : Bool) (r3 : Int) (w : World) (hr0_0 : Kd.C (Kd.slice 3 (Kd.int .i64)) w A0_0 l0_0.length l0_0) (hc0_0 : l0_0.length ≤ c0_0) (hr0_1 : Kd.C (Kd.int .i64) w A0_1 l0_1.length l0_1) (hc0_1 : l0_1.length ≤ c0_1) (hr2 : Kd.C (Kd.int .i64) w A2 l2.length l2) (hc2 : l2.length ≤ c2) (h : signatoryref40_Plan.f k l0_0 l0_1 a1 l2 = some (r1, r2, r3)) :
  Calls Try.prog 41 #[.agg #[.slice A0_0 l0_0.length c0_0, .slice A0_1 l0_1.length c0_1], .int .i64 a1, .slice A2 l2.length c2] w fun e w' => ∃ v0_ : Value, e = .returned (.tuple #[v0_, .bool r2, .int .i64 r3]) ∧ Kd.R (Kd.int .i64) 3 w' w.heap.size (fun _ => True) v0_ r1 ∧ Below w.heap.size w w' := by
 have hu25 := Try.underlying25; have HR0_0 := Aside0.mk hr0_0; have HC0_0 := Aside0.mk hc0_0; clear hr0_0 hc0_0; have HR0_1 := Aside0.mk hr0_1; have HC0_1 := Aside0.mk hc0_1; clear hr0_1 hc0_1; have HR2 := Aside0.mk hr2; have HC2 := Aside0.mk hc2; clear hr2 hc2; have HB := Aside0.mk (Below.refl w.heap.size w); have H : ((signatoryref23_Check.f k l0_0 l0_1).bind fun t452 => (if t452 = 0 then ((signatoryref40_Rows.f k l0_0 l0_1 a1 l2).bind fun t453 => (if t453 = true then ((signatoryref40_Some.f k l0_0 l0_1 l2).bind fun t454 => (if 0 ≤ a1 then (if a1 < (l0_0.length : Int) then ((signatoryref13_Combine.f k t454 (rd_L1 l0_0 a1)).bind fun bt458 => (some (bt458.1, bt458.2.1, bt458.2.2))) else (none)) else (none))) else (some (([] : List Int), false, 1)))) else (some (([] : List Int), false, t452)))) = some (r1, r2, r3) := h; clear h; replace H := Option.bind_eq_some_iff.mp H; obtain ⟨t452, A40, H⟩ := H; replace H : (if t452 = 0 then ((signatoryref40_Rows.f k l0_0 l0_1 a1 l2).bind fun t453 => (if t453 = true then ((signatoryref40_Some.f k l0_0 l0_1 l2).bind fun t454 => (if 0 ≤ a1 then (if a1 < (l0_0.length : Int) then ((signatoryref13_Combine.f k t454 (rd_L1 l0_0 a1)).bind fun bt458 => (some (bt458.1, bt458.2.1, bt458.2.2))) else (none)) else (none))) else (some (([] : List Int), false, 1)))) else (some (([] : List Int), false, t452))) = some (r1, r2, r3) := H; have A4 := Aside0.mk A40; clear A40
 by_cases c5 : t452 = 0
 ·rw [if_pos c5] at H
  have c5b0 : (t452 == 0) = true := beq_iff_eq.mpr c5; have c5b1 : (t452 != 0) = false := bne_eq_false_iff_eq.mpr c5; clear c5; replace H := Option.bind_eq_some_iff.mp H; obtain ⟨t453, A60, H⟩ := H; replace H : (if t453 = true then ((signatoryref40_Some.f k l0_0 l0_1 l2).bind fun t454 => (if 0 ≤ a1 then (if a1 < (l0_0.length : Int) then ((signatoryref13_Combine.f k t454 (rd_L1 l0_0 a1)).bind fun bt458 => (some (bt458.1, bt458.2.1, bt458.2.2))) else (none)) else (none))) else (some (([] : List Int), false, 1))) = some (r1, r2, r3) := H; have A6 := Aside0.mk A60; clear A60
  by_cases c7 : t453 = true
  ·subst c7
   have H1 : ((signatoryref40_Some.f k l0_0 l0_1 l2).bind fun t454 => (if 0 ≤ a1 then (if a1 < (l0_0.length : Int) then ((signatoryref13_Combine.f k t454 (rd_L1 l0_0 a1)).bind fun bt458 => (some (bt458.1, bt458.2.1, bt458.2.2))) else (none)) else (none))) = some (r1, r2, r3) := by rw [if_pos rfl] at H; exact H
   clear H; have H := H1; clear H1; replace H := Option.bind_eq_some_iff.mp H; obtain ⟨t454, A80, H⟩ := H; replace H : (if 0 ≤ a1 then (if a1 < (l0_0.length : Int) then ((signatoryref13_Combine.f k t454 (rd_L1 l0_0 a1)).bind fun bt458 => (some (bt458.1, bt458.2.1, bt458.2.2))) else (none)) else (none)) = some (r1, r2, r3) := H; have A8 := Aside0.mk A80; clear A80
   by_cases c9 : 0 ≤ a1
   ·rw [if_pos c9] at H
    have c9b0 : decide (0 ≤ a1) = true := decide_eq_true c9; clear c9
    by_cases c10 : a1 < (l0_0.length : Int)
    ·rw [if_pos c10] at H
     have c10b0 : decide (a1 < (l0_0.length : Int)) = true := decide_eq_true c10; clear c10; replace H := Option.bind_eq_some_iff.mp H; obtain ⟨⟨t458, t459, t460⟩, A110, H⟩ := H; replace H : (some (t458, t459, t460)) = some (r1, r2, r3) := H; have A11 := Aside0.mk A110; clear A110; simp only [Option.some.injEq, Prod.mk.injEq] at H; obtain ⟨rfl, rfl, rfl⟩ := H
     go_enter Try.func41, Try.ntmps41
     try go_wp2_with (first | ((with_reducible refine gate_dst (N := 3) rfl ?_); refine box_event ?hg (N := 3) ?hd (cs := #[.slice A0_0 l0_0.length c0_0, .slice A0_1 l0_1.length c0_1]) (t := 25) ?hr ?_; (case hd => rfl); (case hg => rfl); (case hr => first | (go_simp; done) | (go_simp; rfl)); intro gb451 hg w12 hbox hb; have n0_ := Aside0.mk (below_step (by repeat (first | (with_reducible first | exact HB.out | apply below_alloc | apply pw_below_drewN | apply below_drew1) | exact HB.out)) hb); have n1_ := Aside0.mk (hbox); have n2_ := Aside0.mk ((by rw [hg]; exact (below_size (by repeat (first | (with_reducible first | exact HB.out | apply below_alloc | apply pw_below_drewN | apply below_drew1) | exact HB.out))) : w.heap.size ≤ gb451)); have n3_ := Aside0.mk ((by rw [hg]; exact (below_size (by repeat (first | (with_reducible first | exact HB.out | apply below_alloc | apply pw_below_drewN | apply below_drew1) | exact HB.out))) : w.heap.size ≤ gb451)); clear HB; have HB := n0_; have BK451 := n1_; have GW451 := n2_; have GE451 := n3_; clear n0_ n1_ n2_ n3_; clear hb hbox hg; have hcz13_0 : w12.cell? ⟨gb451, 0, none⟩ = some (.slice A0_0 l0_0.length c0_0) := (blk_cell BK451.out 0).trans rfl; have hcz13_1 : w12.cell? ⟨gb451, 1, none⟩ = some (.slice A0_1 l0_1.length c0_1) := (blk_cell BK451.out 1).trans rfl; have hfz13_0 := blk_frozen BK451.out 0; have hfz13_1 := blk_frozen BK451.out 1) | ((with_reducible refine gate_callee (f := 58) rfl ?_); refine goesL_ (some 11) rfl rfl Try.func58 (by kernel_rfl) rfl #[.agg #[.slice A0_0 l0_0.length c0_0, .slice A0_1 l0_1.length c0_1]] rfl (by (try simp only [List.map_toArray, List.map_cons, List.map_nil]); first | done | rfl | (simp only [List.length_drop, List.length_take]; rfl)) ?_; (with_reducible refine (signatoryref23_Check.calls k _ _ l0_0 _ _ l0_1 t452 _ ?side1 ?side2 ?side3 ?side4 A4.out).mono ?_); (case side1 => repeat (first | exact (Kd.C_below HR0_0.out HB.out) | (with_reducible refine Kd.C_alloc ?_ _) | (with_reducible refine Kd.C_drewN ?_ _) | (with_reducible refine Kd.C_drew ?_))); (case side2 => exact HC0_0.out); (case side3 => repeat (first | exact (Kd.C_below HR0_1.out HB.out) | (with_reducible refine Kd.C_alloc ?_ _) | (with_reducible refine Kd.C_drewN ?_ _) | (with_reducible refine Kd.C_drew ?_))); (case side4 => exact HC0_1.out); rintro e w14 ⟨rfl, hb⟩; refine ⟨_, rfl, ?_⟩; have n0_ := Aside0.mk (blk_below (g := gb451) (o := .cells #[.slice A0_0 l0_0.length c0_0, .slice A0_1 l0_1.length c0_1] 25 (0, 0)) (by (with_reducible repeat (first | refine blk_drewN ?_ _ | refine blk_drew ?_ | refine blk_alloc ?_ _)); exact BK451.out) hb); have n1_ := Aside0.mk (below_step (by repeat (first | (with_reducible first | exact HB.out | apply below_alloc | apply pw_below_drewN | apply below_drew1 | refine below_set ?_ GE451.out) | exact HB.out)) hb); clear BK451; clear HB; have BK451 := n0_; have HB := n1_; clear n0_ n1_; (try clear hb); (try clear hb2); (try clear hk); (try clear hi); have hcz15_0 : w14.cell? ⟨gb451, 0, none⟩ = some (.slice A0_0 l0_0.length c0_0) := (blk_cell BK451.out 0).trans rfl; have hcz15_1 : w14.cell? ⟨gb451, 1, none⟩ = some (.slice A0_1 l0_1.length c0_1) := (blk_cell BK451.out 1).trans rfl; have hfz15_0 := blk_frozen BK451.out 0; have hfz15_1 := blk_frozen BK451.out 1) | ((with_reducible refine gate_callee (f := 59) rfl ?_); refine goesL_ (some 18) rfl rfl Try.func59 (by kernel_rfl) rfl #[.agg #[.slice A0_0 l0_0.length c0_0, .slice A0_1 l0_1.length c0_1], .int .i64 a1, .slice A2 l2.length c2] rfl (by (try simp only [List.map_toArray, List.map_cons, List.map_nil]); first | done | rfl | (simp only [List.length_drop, List.length_take]; rfl)) ?_; (with_reducible refine (signatoryref40_Rows.calls k _ _ l0_0 _ _ l0_1 a1 _ _ l2 true _ ?side1 ?side2 ?side3 ?side4 ?side5 ?side6 A6.out).mono ?_); (case side1 => repeat (first | exact (Kd.C_below HR0_0.out HB.out) | (with_reducible refine Kd.C_alloc ?_ _) | (with_reducible refine Kd.C_drewN ?_ _) | (with_reducible refine Kd.C_drew ?_))); (case side2 => exact HC0_0.out); (case side3 => repeat (first | exact (Kd.C_below HR0_1.out HB.out) | (with_reducible refine Kd.C_alloc ?_ _) | (with_reducible refine Kd.C_drewN ?_ _) | (with_reducible refine Kd.C_drew ?_))); (case side4 => exact HC0_1.out); (case side5 => repeat (first | exact (Kd.C_below HR2.out HB.out) | (with_reducible refine Kd.C_alloc ?_ _) | (with_reducible refine Kd.C_drewN ?_ _) | (with_reducible refine Kd.C_drew ?_))); (case side6 => exact HC2.out); rintro e w16 ⟨rfl, hb⟩; refine ⟨_, rfl, ?_⟩; have n0_ := Aside0.mk (blk_below (g := gb451) (o := .cells #[.slice A0_0 l0_0.length c0_0, .slice A0_1 l0_1.length c0_1] 25 (0, 0)) (by (with_reducible repeat (first | refine blk_drewN ?_ _ | refine blk_drew ?_ | refine blk_alloc ?_ _)); exact BK451.out) hb); have n1_ := Aside0.mk (below_step (by repeat (first | (with_reducible first | exact HB.out | apply below_alloc | apply pw_below_drewN | apply below_drew1 | refine below_set ?_ GE451.out) | exact HB.out)) hb); clear BK451; clear HB; have BK451 := n0_; have HB := n1_; clear n0_ n1_; (try clear hb); (try clear hb2); (try clear hk); (try clear hi)))
     have n0_ := Aside0.mk (blk_drew BK451.out); have n1_ := Aside0.mk (below_drew1 HB.out); clear BK451; clear HB; have BK451 := n0_; have HB := n1_; clear n0_ n1_; have p457 : 0 ≤ (a1 : Int) := of_decide_eq_true (by first | (with_reducible assumption) | assumption); have q457 : a1 < (l0_0.length : Int) := of_decide_eq_true (by first | (with_reducible assumption) | assumption); obtain ⟨ad457, A457_0, c457_0, e457, hx457_0, hl457_0, hi457_0⟩ := at_L1 HR0_0.out a1 p457 q457; have hw457_0 := hx457_0; cases e457; replace hx457_0 := (HB.out.cell (World.block_lt_of_cell? w _ hx457_0)).trans hx457_0; have HR457_0 := Aside0.mk hi457_0; have HC457_0 := Aside0.mk hl457_0; clear hi457_0 hl457_0; replace p457 := eq_true p457; replace q457 := eq_true q457
     refine start_ (n := 15) (S := fun w' => w'.cell? ⟨gb451, 0, none⟩ = some (.slice (some ad457) l0_0.length c0_0) ∧ w'.cell? ⟨gb451, 1, none⟩ = some (.slice A0_1 l0_1.length c0_1) ∧ w'.cell? (ad457.add (a1).toNat) = some (.slice A457_0 (rd_L1 l0_0 a1).length c457_0)) (ds := []) #[false, false, false, false, false, false, false, false, false, false, false, false, false, false, false] (by kernel_rfl) rfl rfl ⟨(blk_cell BK451.out 0).trans rfl, (blk_cell BK451.out 1).trans rfl, ((HB.out.cell (World.block_lt_of_cell? w _ hw457_0)).trans hw457_0)⟩ (fun hHeld => ?_); refine with_tabW signatoryref40_Plan.tab6 signatoryref40_Plan.bits6 (fun HT_ HW_ => ?_)
     generalize w16.drew = w17 at BK451 HB HR457_0 hx457_0 hHeld ⊢; refine pure_ (i := 1) (N := some 21) (v := ?_) (a' := ?_) #[false, true, false, false, false, false, false, false, false, false, false, false, false, false, false] rfl rfl (any_of HT_.out (by kernel_rfl)) (fun _ _ _ h => h) (Or.inl ⟨by rfl, ?_⟩) ?_ ?_; rotate_left
     ·intro w'
      go_simp
      with_reducible rfl
     rotate_left
     ·simp only [Act.put, List.setIfInBounds_toArray, List.set_cons_zero, List.set_cons_succ, i64_w, i32_w]
      rfl
     refine pure_ (i := 3) (N := some 23) (v := ?_) (a' := ?_) #[false, true, false, true, false, false, false, false, false, false, false, false, false, false, false] rfl rfl (any_of HT_.out (by kernel_rfl)) (fun _ _ _ h => h) (Or.inl ⟨by rfl, ?_⟩) ?_ ?_; rotate_left
     ·intro w'
      go_simp
      with_reducible rfl
     rotate_left
     ·simp only [Act.put, List.setIfInBounds_toArray, List.set_cons_zero, List.set_cons_succ, i64_w, i32_w]
      rfl
     refine pure_ (i := 5) (N := some 25) (v := ?_) (a' := ?_) #[false, true, false, true, false, true, false, false, false, false, false, false, false, false, false] rfl rfl (any_of HT_.out (by kernel_rfl)) (fun _ _ _ h => h) (Or.inl ⟨by rfl, ?_⟩) ?_ ?_; rotate_left
     ·intro w'
      go_simp
      with_reducible rfl
     rotate_left
     ·simp only [Act.put, List.setIfInBounds_toArray, List.set_cons_zero, List.set_cons_succ, i64_w, i32_w]
      rfl
     refine take_ (i := 0) (N := some 20) (v := ?_) (a' := ?_) #[true, true, false, true, false, true, false, false, false, false, false, false, false, false, false] rfl rfl (take_ofW HT_.out HW_.out (by kernel_rfl)) (fun _ _ _ h => h) (Or.inl ⟨by rfl, ?_⟩) hHeld ?_ ?_; rotate_left
     ·rintro w' ⟨s0, s1, s2⟩
      go_simp
      with_reducible rfl
     rotate_left
     ·simp only [Act.put, List.setIfInBounds_toArray, List.set_cons_zero, List.set_cons_succ, i64_w, i32_w]
      rfl
     refine take_ (i := 4) (N := some 24) (v := ?_) (a' := ?_) #[true, true, false, true, true, true, false, false, false, false, false, false, false, false, false] rfl rfl (take_ofW HT_.out HW_.out (by kernel_rfl)) (fun _ _ _ h => h) (Or.inl ⟨by rfl, ?_⟩) hHeld ?_ ?_; rotate_left
     ·rintro w' ⟨s0, s1, s2⟩
      go_simp
      with_reducible rfl
     rotate_left
     ·simp only [Act.put, List.setIfInBounds_toArray, List.set_cons_zero, List.set_cons_succ, i64_w, i32_w]
      rfl
     refine pure_ (i := 6) (N := some 26) (v := ?_) (a' := ?_) #[true, true, false, true, true, true, true, false, false, false, false, false, false, false, false] rfl rfl (any_of HT_.out (by kernel_rfl)) (fun _ _ _ h => h) (Or.inl ⟨by rfl, ?_⟩) ?_ ?_; rotate_left
     ·intro w'
      go_simp
      with_reducible rfl
     rotate_left
     ·simp only [Act.put, List.setIfInBounds_toArray, List.set_cons_zero, List.set_cons_succ, i64_w, i32_w]
      rfl
     refine take_ (i := 7) (N := some 27) (v := ?_) (a' := ?_) #[true, true, false, true, true, true, true, true, false, false, false, false, false, false, false] rfl rfl (take_ofW HT_.out HW_.out (by kernel_rfl)) (fun _ _ _ h => h) (Or.inl ⟨by rfl, ?_⟩) hHeld ?_ ?_; rotate_left
     ·rintro w' ⟨s0, s1, s2⟩
      go_simp
      with_reducible rfl
     rotate_left
     ·simp only [Act.put, List.setIfInBounds_toArray, List.set_cons_zero, List.set_cons_succ, i64_w, i32_w]
      rfl
     refine one_ (i := 2) (N := some 22) #[true, true, true, true, true, true, true, true, false, false, false, false, false, false, false] rfl rfl (one_of HT_.out (by kernel_rfl)) (by decide) (fun K hK => ?_); refine goes_ Try.func64 (by kernel_rfl) rfl #[.agg #[.slice (some ad457) l0_0.length c0_0, .slice A0_1 l0_1.length c0_1], .slice A2 l2.length c2] (by rfl) rfl rfl (by (try simp only [List.map_toArray, List.map_cons, List.map_nil]); first | done | rfl | (simp only [List.length_drop, List.length_take]; rfl)) ?_
     with_reducible refine (signatoryref40_Some.calls k (fun k_ => k_ < w.heap.size) _ _ l0_0 _ _ l0_1 _ _ l2 t454 _ ?side1 ?side2 ?side3 ?side4 ?side5 A8.out).mono ?_
     (case side1 => exact Kd.V_mk HC0_0.out (Kd.F_below (Kd.C_F (Kd.heap_slice 3 (Kd.heap_int .i64)) HR0_0.out) (by repeat (first | (with_reducible first | exact HB.out | apply below_alloc | apply pw_below_drewN | apply below_drew1 | refine below_set ?_ GE451.out) | exact HB.out))))
     (case side2 => repeat (first | exact (Kd.C_below HR0_1.out HB.out) | (with_reducible refine Kd.C_alloc ?_ _) | (with_reducible refine Kd.C_drewN ?_ _) | (with_reducible refine Kd.C_drew ?_)))
     (case side3 => exact HC0_1.out)
     (case side4 => repeat (first | exact (Kd.C_below HR2.out HB.out) | (with_reducible refine Kd.C_alloc ?_ _) | (with_reducible refine Kd.C_drewN ?_ _) | (with_reducible refine Kd.C_drew ?_)))
     (case side5 => exact HC2.out)
     rintro e w18 ⟨v455, rfl, ho0, hb⟩; refine ⟨_, rfl, ?_⟩; have n0_ := Aside0.mk (Kd.N_lower (Kd.N_mono (ok' := fun k_ => k_ ≠ gb451) ho0 (fun k_ hk_ => Or.elim hk_ (fun hs_ => fun e_ => Nat.not_le.2 hs_ (by rw [e_]; exact GW451.out)) (fun hn_ => (Kd.freshB (g := gb451) (o := .cells #[.slice (some ad457) l0_0.length c0_0, .slice A0_1 l0_1.length c0_1] 25 (0, 0)) (by (with_reducible repeat (first | refine blk_drewN ?_ _ | refine blk_drew ?_ | refine blk_alloc ?_ _)); exact BK451.out) k_ hn_)))) (below_size (by repeat (first | (with_reducible first | exact HB.out | apply below_alloc | apply pw_below_drewN | apply below_drew1 | refine below_set ?_ GE451.out) | exact HB.out)))); have n1_ := Aside0.mk (blk_below (g := gb451) (o := .cells #[.slice (some ad457) l0_0.length c0_0, .slice A0_1 l0_1.length c0_1] 25 (0, 0)) (by (with_reducible repeat (first | refine blk_drewN ?_ _ | refine blk_drew ?_ | refine blk_alloc ?_ _)); exact BK451.out) hb); have n2_ := Aside0.mk (below_step (by repeat (first | (with_reducible first | exact HB.out | apply below_alloc | apply pw_below_drewN | apply below_drew1 | refine below_set ?_ GE451.out) | exact HB.out)) hb); clear BK451; clear HB; have HO456 := n0_; have BK451 := n1_; have HB := n2_; clear n0_ n1_ n2_; (try clear hb); (try clear hb2); (try clear hk); (try clear hi); (try clear ho0); obtain ⟨Ao19, co19, eo19⟩ := Kd.N_slice HO456.out
     (first | subst eo19 | (injection eo19 with f1_ f2_ f3_; have f4_ := f1_.symm; have f5_ := f3_.symm; clear f1_ f2_ f3_; subst f4_; subst f5_))
     refine hK.out _ _ ⟨(blk_cell BK451.out 0).trans rfl, (blk_cell BK451.out 1).trans rfl, ((HB.out.cell (World.block_lt_of_cell? w _ hw457_0)).trans hw457_0)⟩ (fun hHeld => ?_); clear hK K; refine norm_ (a' := ?_) ?_ ?_; rotate_left
     ·show Act.put _ (some 22) _ = _
      simp only [Act.put, List.setIfInBounds_toArray, List.set_cons_zero, List.set_cons_succ, i64_w, i32_w]; rfl
     refine one_ (i := 8) (N := some 28) #[true, true, true, true, true, true, true, true, true, false, false, false, false, false, false] rfl rfl (one_of HT_.out (by kernel_rfl)) (by decide) (fun K hK => ?_); refine goes_ Try.func98 (by kernel_rfl) rfl #[.slice Ao19 t454.length co19, .slice A457_0 (rd_L1 l0_0 a1).length c457_0] (by rfl) rfl rfl (by (try simp only [List.map_toArray, List.map_cons, List.map_nil]); first | done | rfl | (simp only [List.length_drop, List.length_take]; rfl)) ?_
     with_reducible refine (signatoryref13_Combine.calls k _ _ t454 _ _ (rd_L1 l0_0 a1) t458 t459 t460 _ ?side1 ?side2 ?side3 ?side4 A11.out).mono ?_
     (case side1 => repeat (first | exact (Kd.N_reads' HO456.out).2.2 | (with_reducible refine Kd.C_alloc ?_ _) | (with_reducible refine Kd.C_drewN ?_ _) | (with_reducible refine Kd.C_drew ?_)))
     (case side2 => exact (Kd.N_reads' HO456.out).2.1)
     (case side3 => repeat (first | exact (Kd.C_below HR457_0.out HB.out) | (with_reducible refine Kd.C_alloc ?_ _) | (with_reducible refine Kd.C_drewN ?_ _) | (with_reducible refine Kd.C_drew ?_)))
     (case side4 => exact HC457_0.out)
     rintro e w20 ⟨v461, rfl, ho0, hb⟩; refine ⟨_, rfl, ?_⟩; have n0_ := Aside0.mk (Kd.N_elder' (by (with_reducible repeat (first | apply Kd.N_alloc | apply Kd.N_drewN | apply Kd.N_drew)); exact HO456.out) (Kd.R_base ho0) hb); have n1_ := Aside0.mk (Kd.R_lower ho0 (below_size (by repeat (first | (with_reducible first | exact HB.out | apply below_alloc | apply pw_below_drewN | apply below_drew1 | refine below_set ?_ GE451.out) | exact HB.out)))); have n2_ := Aside0.mk (blk_below (g := gb451) (o := .cells #[.slice (some ad457) l0_0.length c0_0, .slice A0_1 l0_1.length c0_1] 25 (0, 0)) (by (with_reducible repeat (first | refine blk_drewN ?_ _ | refine blk_drew ?_ | refine blk_alloc ?_ _)); exact BK451.out) hb); have n3_ := Aside0.mk (below_step (by repeat (first | (with_reducible first | exact HB.out | apply below_alloc | apply pw_below_drewN | apply below_drew1 | refine below_set ?_ GE451.out) | exact HB.out)) hb); clear HO456; clear BK451; clear HB; have HO456 := n0_; have HO462 := n1_; have BK451 := n2_; have HB := n3_; clear n0_ n1_ n2_ n3_; (try clear hb); (try clear hb2); (try clear hk); (try clear hi); (try clear ho0); refine hK.out _ _ ⟨(blk_cell BK451.out 0).trans rfl, (blk_cell BK451.out 1).trans rfl, ((HB.out.cell (World.block_lt_of_cell? w _ hw457_0)).trans hw457_0)⟩ (fun hHeld => ?_); clear hK K; refine norm_ (a' := ?_) ?_ ?_; rotate_left
     ·show Act.put _ (some 28) _ = _
      simp only [Act.put, List.setIfInBounds_toArray, List.set_cons_zero, List.set_cons_succ, i64_w, i32_w]; rfl
     refine pure_ (i := 9) (N := some 29) (v := ?_) (a' := ?_) #[true, true, true, true, true, true, true, true, true, true, false, false, false, false, false] rfl rfl (any_of HT_.out (by kernel_rfl)) (fun _ _ _ h => h) (Or.inl ⟨by rfl, ?_⟩) ?_ ?_; rotate_left
     ·intro w'
      go_simp
      with_reducible rfl
     rotate_left
     ·simp only [Act.put, List.setIfInBounds_toArray, List.set_cons_zero, List.set_cons_succ, i64_w, i32_w]
      rfl
     refine pure_ (i := 10) (N := some 30) (v := ?_) (a' := ?_) #[true, true, true, true, true, true, true, true, true, true, true, false, false, false, false] rfl rfl (any_of HT_.out (by kernel_rfl)) (fun _ _ _ h => h) (Or.inl ⟨by rfl, ?_⟩) ?_ ?_; rotate_left
     ·intro w'
      go_simp
      with_reducible rfl
     rotate_left
     ·simp only [Act.put, List.setIfInBounds_toArray, List.set_cons_zero, List.set_cons_succ, i64_w, i32_w]
      rfl
     refine pure_ (i := 11) (N := some 31) (v := ?_) (a' := ?_) #[true, true, true, true, true, true, true, true, true, true, true, true, false, false, false] rfl rfl (any_of HT_.out (by kernel_rfl)) (fun _ _ _ h => h) (Or.inl ⟨by rfl, ?_⟩) ?_ ?_; rotate_left
     ·intro w'
      go_simp
      with_reducible rfl
     rotate_left
     ·simp only [Act.put, List.setIfInBounds_toArray, List.set_cons_zero, List.set_cons_succ, i64_w, i32_w]
      rfl
     refine pure_ (i := 12) (N := some 6) (v := ?_) (a' := ?_) #[true, true, true, true, true, true, true, true, true, true, true, true, true, false, false] rfl rfl (any_of HT_.out (by kernel_rfl)) (fun _ _ _ h => h) (Or.inl ⟨by rfl, ?_⟩) ?_ ?_; rotate_left
     ·intro w'
      go_simp
      with_reducible rfl
     rotate_left
     ·simp only [Act.put, List.setIfInBounds_toArray, List.set_cons_zero, List.set_cons_succ, i64_w, i32_w]
      rfl
     refine pure_ (i := 13) (N := some 7) (v := ?_) (a' := ?_) #[true, true, true, true, true, true, true, true, true, true, true, true, true, true, false] rfl rfl (any_of HT_.out (by kernel_rfl)) (fun _ _ _ h => h) (Or.inl ⟨by rfl, ?_⟩) ?_ ?_; rotate_left
     ·intro w'
      go_simp
      with_reducible rfl
     rotate_left
     ·simp only [Act.put, List.setIfInBounds_toArray, List.set_cons_zero, List.set_cons_succ, i64_w, i32_w]
      rfl
     refine pure_ (i := 14) (N := some 8) (v := ?_) (a' := ?_) #[true, true, true, true, true, true, true, true, true, true, true, true, true, true, true] rfl rfl (any_of HT_.out (by kernel_rfl)) (fun _ _ _ h => h) (Or.inl ⟨by rfl, ?_⟩) ?_ ?_; rotate_left
     ·intro w'
      go_simp
      with_reducible rfl
     rotate_left
     ·simp only [Act.put, List.setIfInBounds_toArray, List.set_cons_zero, List.set_cons_succ, i64_w, i32_w]
      rfl
     refine done_ (done_of HT_.out (by kernel_rfl)) ?_
     try go_wp2
     go_ret3
     exact ⟨_, by first | rfl | (simp [errW_none, errW_some] <;> rfl) | (simp [*, errW_none, errW_some] <;> rfl), by (with_reducible repeat (first | apply Kd.R_alloc | apply Kd.R_drewN | apply Kd.R_drew)); exact HO462.out, by repeat (first | (with_reducible first | exact HB.out | apply below_alloc | apply pw_below_drewN | apply below_drew1 | refine below_set ?_ GE451.out) | exact HB.out)⟩
    ·rw [if_neg c10] at H
     exact absurd H (by simp)
   ·rw [if_neg c9] at H
    exact absurd H (by simp)
  ·replace c7 := Bool.eq_false_iff.mpr c7
   subst c7
   have H1 : (some (([] : List Int), false, 1)) = some (r1, r2, r3) := by rw [if_neg (show ¬ (false = true) by decide)] at H; exact H
   clear H; have H := H1; clear H1; simp only [Option.some.injEq, Prod.mk.injEq] at H; obtain ⟨rfl, rfl, rfl⟩ := H
   go_enter Try.func41, Try.ntmps41
   go_wp2_with (first | ((with_reducible refine gate_dst (N := 3) rfl ?_); refine box_event ?hg (N := 3) ?hd (cs := #[.slice A0_0 l0_0.length c0_0, .slice A0_1 l0_1.length c0_1]) (t := 25) ?hr ?_; (case hd => rfl); (case hg => rfl); (case hr => first | (go_simp; done) | (go_simp; rfl)); intro gb451 hg w21 hbox hb; have n0_ := Aside0.mk (below_step (by repeat (first | (with_reducible first | exact HB.out | apply below_alloc | apply pw_below_drewN | apply below_drew1) | exact HB.out)) hb); have n1_ := Aside0.mk (hbox); have n2_ := Aside0.mk ((by rw [hg]; exact (below_size (by repeat (first | (with_reducible first | exact HB.out | apply below_alloc | apply pw_below_drewN | apply below_drew1) | exact HB.out))) : w.heap.size ≤ gb451)); have n3_ := Aside0.mk ((by rw [hg]; exact (below_size (by repeat (first | (with_reducible first | exact HB.out | apply below_alloc | apply pw_below_drewN | apply below_drew1) | exact HB.out))) : w.heap.size ≤ gb451)); clear HB; have HB := n0_; have BK451 := n1_; have GW451 := n2_; have GE451 := n3_; clear n0_ n1_ n2_ n3_; clear hb hbox hg; have hcz22_0 : w21.cell? ⟨gb451, 0, none⟩ = some (.slice A0_0 l0_0.length c0_0) := (blk_cell BK451.out 0).trans rfl; have hcz22_1 : w21.cell? ⟨gb451, 1, none⟩ = some (.slice A0_1 l0_1.length c0_1) := (blk_cell BK451.out 1).trans rfl; have hfz22_0 := blk_frozen BK451.out 0; have hfz22_1 := blk_frozen BK451.out 1) | ((with_reducible refine gate_callee (f := 58) rfl ?_); refine goesL_ (some 11) rfl rfl Try.func58 (by kernel_rfl) rfl #[.agg #[.slice A0_0 l0_0.length c0_0, .slice A0_1 l0_1.length c0_1]] rfl (by (try simp only [List.map_toArray, List.map_cons, List.map_nil]); first | done | rfl | (simp only [List.length_drop, List.length_take]; rfl)) ?_; (with_reducible refine (signatoryref23_Check.calls k _ _ l0_0 _ _ l0_1 t452 _ ?side1 ?side2 ?side3 ?side4 A4.out).mono ?_); (case side1 => repeat (first | exact (Kd.C_below HR0_0.out HB.out) | (with_reducible refine Kd.C_alloc ?_ _) | (with_reducible refine Kd.C_drewN ?_ _) | (with_reducible refine Kd.C_drew ?_))); (case side2 => exact HC0_0.out); (case side3 => repeat (first | exact (Kd.C_below HR0_1.out HB.out) | (with_reducible refine Kd.C_alloc ?_ _) | (with_reducible refine Kd.C_drewN ?_ _) | (with_reducible refine Kd.C_drew ?_))); (case side4 => exact HC0_1.out); rintro e w23 ⟨rfl, hb⟩; refine ⟨_, rfl, ?_⟩; have n0_ := Aside0.mk (blk_below (g := gb451) (o := .cells #[.slice A0_0 l0_0.length c0_0, .slice A0_1 l0_1.length c0_1] 25 (0, 0)) (by (with_reducible repeat (first | refine blk_drewN ?_ _ | refine blk_drew ?_ | refine blk_alloc ?_ _)); exact BK451.out) hb); have n1_ := Aside0.mk (below_step (by repeat (first | (with_reducible first | exact HB.out | apply below_alloc | apply pw_below_drewN | apply below_drew1 | refine below_set ?_ GE451.out) | exact HB.out)) hb); clear BK451; clear HB; have BK451 := n0_; have HB := n1_; clear n0_ n1_; (try clear hb); (try clear hb2); (try clear hk); (try clear hi); have hcz24_0 : w23.cell? ⟨gb451, 0, none⟩ = some (.slice A0_0 l0_0.length c0_0) := (blk_cell BK451.out 0).trans rfl; have hcz24_1 : w23.cell? ⟨gb451, 1, none⟩ = some (.slice A0_1 l0_1.length c0_1) := (blk_cell BK451.out 1).trans rfl; have hfz24_0 := blk_frozen BK451.out 0; have hfz24_1 := blk_frozen BK451.out 1) | ((with_reducible refine gate_callee (f := 59) rfl ?_); refine goesL_ (some 18) rfl rfl Try.func59 (by kernel_rfl) rfl #[.agg #[.slice A0_0 l0_0.length c0_0, .slice A0_1 l0_1.length c0_1], .int .i64 a1, .slice A2 l2.length c2] rfl (by (try simp only [List.map_toArray, List.map_cons, List.map_nil]); first | done | rfl | (simp only [List.length_drop, List.length_take]; rfl)) ?_; (with_reducible refine (signatoryref40_Rows.calls k _ _ l0_0 _ _ l0_1 a1 _ _ l2 false _ ?side1 ?side2 ?side3 ?side4 ?side5 ?side6 A6.out).mono ?_); (case side1 => repeat (first | exact (Kd.C_below HR0_0.out HB.out) | (with_reducible refine Kd.C_alloc ?_ _) | (with_reducible refine Kd.C_drewN ?_ _) | (with_reducible refine Kd.C_drew ?_))); (case side2 => exact HC0_0.out); (case side3 => repeat (first | exact (Kd.C_below HR0_1.out HB.out) | (with_reducible refine Kd.C_alloc ?_ _) | (with_reducible refine Kd.C_drewN ?_ _) | (with_reducible refine Kd.C_drew ?_))); (case side4 => exact HC0_1.out); (case side5 => repeat (first | exact (Kd.C_below HR2.out HB.out) | (with_reducible refine Kd.C_alloc ?_ _) | (with_reducible refine Kd.C_drewN ?_ _) | (with_reducible refine Kd.C_drew ?_))); (case side6 => exact HC2.out); rintro e w25 ⟨rfl, hb⟩; refine ⟨_, rfl, ?_⟩; have n0_ := Aside0.mk (blk_below (g := gb451) (o := .cells #[.slice A0_0 l0_0.length c0_0, .slice A0_1 l0_1.length c0_1] 25 (0, 0)) (by (with_reducible repeat (first | refine blk_drewN ?_ _ | refine blk_drew ?_ | refine blk_alloc ?_ _)); exact BK451.out) hb); have n1_ := Aside0.mk (below_step (by repeat (first | (with_reducible first | exact HB.out | apply below_alloc | apply pw_below_drewN | apply below_drew1 | refine below_set ?_ GE451.out) | exact HB.out)) hb); clear BK451; clear HB; have BK451 := n0_; have HB := n1_; clear n0_ n1_; (try clear hb); (try clear hb2); (try clear hk); (try clear hi)))
   go_ret3
   exact ⟨_, by first | rfl | (simp [errW_none, errW_some] <;> rfl) | (simp [*, errW_none, errW_some] <;> rfl), by first | exact Kd.R_nil _ _ _ _ _ | exact Kd.N_nil _ _ _ _ _ | exact Kd.V_nil _ _ _ _ _ | exact Kd.Q_nil _ _ _ _ _ | exact Kd.S_nil _ _ _ _ _, by repeat (first | (with_reducible first | exact HB.out | apply below_alloc | apply pw_below_drewN | apply below_drew1 | refine below_set ?_ GE451.out) | exact HB.out)⟩
 ·rw [if_neg c5] at H
  have c5b0 : (t452 == 0) = false := beq_eq_false_iff_ne.mpr c5; have c5b1 : (t452 != 0) = true := bne_iff_ne.mpr c5; simp only [Option.some.injEq, Prod.mk.injEq] at H; obtain ⟨rfl, rfl, rfl⟩ := H
  go_enter Try.func41, Try.ntmps41
  go_wp2_with (first | ((with_reducible refine gate_dst (N := 3) rfl ?_); refine box_event ?hg (N := 3) ?hd (cs := #[.slice A0_0 l0_0.length c0_0, .slice A0_1 l0_1.length c0_1]) (t := 25) ?hr ?_; (case hd => rfl); (case hg => rfl); (case hr => first | (go_simp; done) | (go_simp; rfl)); intro gb451 hg w26 hbox hb; have n0_ := Aside0.mk (below_step (by repeat (first | (with_reducible first | exact HB.out | apply below_alloc | apply pw_below_drewN | apply below_drew1) | exact HB.out)) hb); have n1_ := Aside0.mk (hbox); have n2_ := Aside0.mk ((by rw [hg]; exact (below_size (by repeat (first | (with_reducible first | exact HB.out | apply below_alloc | apply pw_below_drewN | apply below_drew1) | exact HB.out))) : w.heap.size ≤ gb451)); have n3_ := Aside0.mk ((by rw [hg]; exact (below_size (by repeat (first | (with_reducible first | exact HB.out | apply below_alloc | apply pw_below_drewN | apply below_drew1) | exact HB.out))) : w.heap.size ≤ gb451)); clear HB; have HB := n0_; have BK451 := n1_; have GW451 := n2_; have GE451 := n3_; clear n0_ n1_ n2_ n3_; clear hb hbox hg; have hcz27_0 : w26.cell? ⟨gb451, 0, none⟩ = some (.slice A0_0 l0_0.length c0_0) := (blk_cell BK451.out 0).trans rfl; have hcz27_1 : w26.cell? ⟨gb451, 1, none⟩ = some (.slice A0_1 l0_1.length c0_1) := (blk_cell BK451.out 1).trans rfl; have hfz27_0 := blk_frozen BK451.out 0; have hfz27_1 := blk_frozen BK451.out 1) | ((with_reducible refine gate_callee (f := 58) rfl ?_); refine goesL_ (some 11) rfl rfl Try.func58 (by kernel_rfl) rfl #[.agg #[.slice A0_0 l0_0.length c0_0, .slice A0_1 l0_1.length c0_1]] rfl (by (try simp only [List.map_toArray, List.map_cons, List.map_nil]); first | done | rfl | (simp only [List.length_drop, List.length_take]; rfl)) ?_; (with_reducible refine (signatoryref23_Check.calls k _ _ l0_0 _ _ l0_1 t452 _ ?side1 ?side2 ?side3 ?side4 A4.out).mono ?_); (case side1 => repeat (first | exact (Kd.C_below HR0_0.out HB.out) | (with_reducible refine Kd.C_alloc ?_ _) | (with_reducible refine Kd.C_drewN ?_ _) | (with_reducible refine Kd.C_drew ?_))); (case side2 => exact HC0_0.out); (case side3 => repeat (first | exact (Kd.C_below HR0_1.out HB.out) | (with_reducible refine Kd.C_alloc ?_ _) | (with_reducible refine Kd.C_drewN ?_ _) | (with_reducible refine Kd.C_drew ?_))); (case side4 => exact HC0_1.out); rintro e w28 ⟨rfl, hb⟩; refine ⟨_, rfl, ?_⟩; have n0_ := Aside0.mk (blk_below (g := gb451) (o := .cells #[.slice A0_0 l0_0.length c0_0, .slice A0_1 l0_1.length c0_1] 25 (0, 0)) (by (with_reducible repeat (first | refine blk_drewN ?_ _ | refine blk_drew ?_ | refine blk_alloc ?_ _)); exact BK451.out) hb); have n1_ := Aside0.mk (below_step (by repeat (first | (with_reducible first | exact HB.out | apply below_alloc | apply pw_below_drewN | apply below_drew1 | refine below_set ?_ GE451.out) | exact HB.out)) hb); clear BK451; clear HB; have BK451 := n0_; have HB := n1_; clear n0_ n1_; (try clear hb); (try clear hb2); (try clear hk); (try clear hi)))
  go_ret3
  exact ⟨_, by first | rfl | (simp [errW_none, errW_some] <;> rfl) | (simp [*, errW_none, errW_some] <;> rfl), by first | exact Kd.R_nil _ _ _ _ _ | exact Kd.N_nil _ _ _ _ _ | exact Kd.V_nil _ _ _ _ _ | exact Kd.Q_nil _ _ _ _ _ | exact Kd.S_nil _ _ _ _ _, by repeat (first | (with_reducible first | exact HB.out | apply below_alloc | apply pw_below_drewN | apply below_drew1 | refine below_set ?_ GE451.out) | exact HB.out)⟩
end Go.Proofs.Ytdbamhckgaoibaa.P
namespace Go.Proofs.Ytdbamhckgaoibaa.P
open Go.RowKit Go.Proofs.YtdbamhckgaoibaaW.PrintWords Go.Proofs.YtdbamhckgaoibaaW.PrintLast Go.Proofs.YtdbamhckgaoibaaW.PrintMore
theorem deal_p {A0 A1 A2 : Option Addr} {c0 c1 c2 : Nat} {rows : List (List Int)} {owners : List Int} {secret : Int} {random : List Int} {sh : List S38} {cm : List Int} {e : Int} {W : World} (h0 : Sl (Kd.slice 3 (Kd.int .i64)) W A0 c0 rows) (h1 : Sl (Kd.int .i64) W A1 c1 owners) (h2 : Sl (Kd.int .i64) W A2 c2 random)
    (h : dealQ rows owners secret random = (sh, cm, e)) :
    Calls Try.prog 22 #[.agg #[.slice A0 rows.length c0, .slice A1 owners.length c1], .int .i64 secret, .slice A2 random.length c2] W fun e' w' => ∃ B0 d0 B1 d1, e' = .returned (.tuple #[.slice B0 sh.length d0, .slice B1 cm.length d1, .int .i64 e]) ∧ Sl k38 w' B0 d0 sh ∧ Sl (Kd.int .i64) w' B1 d1 cm ∧ Below W.heap.size W w' := by
  have := deal_w (secret := secret) h0 h1 h2; rw [h] at this; refine this.mono ?_; rintro e' w' ⟨v0, v1, rfl, g0, g1, hb⟩; obtain ⟨B0, d0, rfl, s0⟩ := Sl.ofR g0; obtain ⟨B1, d1, rfl, s1⟩ := Sl.ofR g1; exact ⟨B0, d0, B1, d1, rfl, s0, s1, hb⟩
end Go.Proofs.Ytdbamhckgaoibaa.P
namespace Go.Proofs.Ytdbamhckgaoibaa.P
open Go.RowKit Go.Proofs.YtdbamhckgaoibaaW.PrintWords Go.Proofs.YtdbamhckgaoibaaW.PrintLast Go.Proofs.YtdbamhckgaoibaaW.PrintMore
abbrev ex3R : List (List Int) := [[1, 1], [1, 2], [1, 3]]
theorem ex3_check : checkP ex3R [0, 1, 2] = 0 := by decide +kernel
theorem ex3_comb : Sig.combine [[1, 2], [1, 3]] [1, 1] = some [2, 1073741788] := by rw [combine_inv1]; decide +kernel
theorem ex3_comb0 : Sig.combine [] [1, 1] = none := by rw [combine_inv1]; decide +kernel
theorem ex3_plan : planQ ex3R [0, 1, 2] 0 [1, 2] = ([2, 1073741788], true, 0) := by
  unfold planQ planT; rw [if_pos ex3_check, if_pos (by decide), show helpRows ex3R.length 0 (-1) [1, 2] = [1, 2] from by decide, if_pos (by decide), show ([1, 2].map fun i => ex3R.getD i []) = [[1, 2], [1, 3]] from rfl, show ex3R.getD (Int.toNat 0) [] = [1, 1] from rfl, ex3_comb]
theorem ex3_plan0 : planQ ex3R [0, 1, 2] 0 [] = ([], false, 0) := by
  unfold planQ planT; rw [if_pos ex3_check, if_pos (by decide), show helpRows ex3R.length 0 (-1) [] = [] from by decide, if_pos (by decide), show (([] : List Nat).map fun i => ex3R.getD i []) = [] from rfl, show ex3R.getD (Int.toNat 0) [] = [1, 1] from rfl, ex3_comb0]
theorem ex3_plan1 : planQ ex3R [0, 1, 2] 0 [0, 1] = ([], false, 1) := by
  unfold planQ; rw [if_pos ex3_check, if_pos (by decide), show helpRows ex3R.length 0 (-1) [0, 1] = [] from by decide, if_neg (by decide)]
theorem ex_part1 : partQ 0 0 0 [] = (0, 0) := by decide +kernel
theorem ex_part2 : partQ 1 0 5 [1073741784] = (0, 0) := by decide +kernel
theorem ex_part3 : partQ 1073741789 0 0 [] = (0, 1) := by decide +kernel
theorem ex_part4 : partQ 0 64 0 [] = (0, 340) := by decide +kernel
theorem ex_part5 : partQ 2 1 118 [50] = (286, 0) := by decide +kernel
theorem ex_part6 : partQ 1073741788 2 127 [1073741739] = (1073741612, 0) := by decide +kernel
abbrev ex3C : List Int := [100, 9].map commitQ
theorem ex3_deal : dealQ ex3R [0, 1, 2] 100 [9] = ([⟨0, 109⟩, ⟨1, 118⟩, ⟨2, 127⟩], ex3C, 0) := by
  rw [deal_good ex3_check (by decide) (by decide) (by decide)]; rfl
theorem ex3_checkD : checkD ex3R [0, 1, 2] ex3C = 0 := check_dealt (s := [100, 9]) ex3_check rfl
theorem ex3_fits (v : Int) (hv : inQ v = true) : fitsD ex3R [0, 1, 2] ex3C 0 v = (commitQ v == commitQ 109, 0) := by
  have := fits_dealt (s := [100, 9]) ex3_check rfl (i := 0) (by decide) hv; rw [show ((0 : Nat) : Int) = 0 from rfl] at this; rw [this, show Sig.dot (ex3R.getD 0 []) [100, 9] = 109 from rfl]
theorem ex3_pub : (publicD ex3R [0, 1, 2] ex3C 0).2 = 0 := by
  unfold publicD; rw [if_pos ex3_checkD, if_pos (by decide)]
theorem ex_sum1 : sumL [286, 1073741612] = 109 := by decide +kernel
theorem ex_sum2 : sumL [286, 1073741612, 1] = 110 := by decide +kernel
theorem ex_commit109 : commitQ 110 ≠ commitQ 109 := by decide +kernel
theorem ex_fin1 : finishQ ex3R [0, 1, 2] ex3C 0 [286, 1073741612] = (0, 109, true, 0) := by
  unfold finishQ; rw [if_pos ex3_pub, if_pos (by decide +kernel), ex_sum1, ex3_fits 109 (by decide), if_pos ⟨rfl, beq_self_eq_true _⟩]
theorem ex_fin2 : finishQ ex3R [0, 1, 2] ex3C 0 [286, 1073741612, 1] = (0, 0, false, 0) := by
  unfold finishQ; rw [if_pos ex3_pub, if_pos (by decide +kernel), ex_sum2, ex3_fits 110 (by decide), if_neg (fun h => ex_commit109 (beq_iff_eq.1 h.2))]
theorem ex_fin3 : finishQ ex3R [0, 1, 2] ex3C 3 [] = (0, 0, false, 1) := by
  have : publicD ex3R [0, 1, 2] ex3C 3 = (0, 1) := by
    unfold publicD; rw [if_pos ex3_checkD, if_neg (by decide)]
  unfold finishQ; rw [this, if_neg (by decide)]
theorem ex_fin4 : finishQ ex3R [0, 1, 2] [] 3 [] = (0, 0, false, 340) := by
  have hc : checkD ex3R [0, 1, 2] [] = 340 := by
    unfold checkD; rw [if_pos ex3_check, if_neg (fun h => by have h1 := h.1; revert h1; decide)]
  have : publicD ex3R [0, 1, 2] [] 3 = (0, 340) := by
    unfold publicD; rw [hc, if_neg (by decide)]
  unfold finishQ; rw [this, if_neg (by decide)]
end Go.Proofs.Ytdbamhckgaoibaa.P
namespace Go.Proofs.Ytdbamhckgaoibaa.P
open Go.RowKit Go.Proofs.YtdbamhckgaoibaaW.PrintWords Go.Proofs.YtdbamhckgaoibaaW.PrintLast Go.Proofs.YtdbamhckgaoibaaW.PrintMore
set_option linter.unusedVariables false
theorem three_p (W : World) : Calls Try.prog 108 #[] W fun e' w' => ∃ B0 d0 B1 d1, e' = .returned (.agg #[.slice B0 3 d0, .slice B1 3 d1]) ∧ Sl (Kd.slice 3 (Kd.int .i64)) w' B0 d0 ex3R ∧ Sl (Kd.int .i64) w' B1 d1 [0, 1, 2] ∧ Below W.heap.size W w' := by
  refine (signatorylaw40_three.calls ex3R [0, 1, 2] W rfl).mono ?_; rintro e' w' ⟨v0, v1, rfl, g0, g1, hb⟩; obtain ⟨B0, d0, rfl, s0⟩ := Sl.ofN g0; obtain ⟨B1, d1, rfl, s1⟩ := Sl.ofR g1; exact ⟨B0, d0, B1, d1, rfl, s0, s1, hb⟩
theorem plan_p {A0 A1 A2 : Option Addr} {c0 c1 c2 : Nat} {rows : List (List Int)} {owners : List Int} {row : Int} {idx y : List Int} {ok : Bool} {e : Int} {W : World} (h0 : Sl (Kd.slice 3 (Kd.int .i64)) W A0 c0 rows) (h1 : Sl (Kd.int .i64) W A1 c1 owners) (h2 : Sl (Kd.int .i64) W A2 c2 idx) (h : planQ rows owners row idx = (y, ok, e)) :
    Calls Try.prog 40 #[.agg #[.slice A0 rows.length c0, .slice A1 owners.length c1], .int .i64 row, .slice A2 idx.length c2] W fun e' w' => ∃ B d, e' = .returned (.tuple #[.slice B y.length d, .bool ok, .int .i64 e]) ∧ Sl (Kd.int .i64) w' B d y ∧ Below W.heap.size W w' := by
  have := plan_w (row := row) h0 h1 h2; rw [h] at this; refine this.mono ?_; rintro e' w' ⟨v, rfl, g, hb⟩; obtain ⟨B, d, rfl, s⟩ := Sl.ofR g; exact ⟨B, d, rfl, s, hb⟩
theorem part_p {y f0 f1 : Int} {A2 : Option Addr} {c2 : Nat} {masks : List Int} {x e : Int} {W : World} (h2 : Sl (Kd.int .i64) W A2 c2 masks) (h : partQ y f0 f1 masks = (x, e)) :
    Calls Try.prog 42 #[.int .i64 y, .agg #[.int .i64 f0, .int .i64 f1], .slice A2 masks.length c2] W fun e' w' => e' = .returned (.tuple #[.int .i64 x, .int .i64 e]) ∧ Below W.heap.size W w' := by
  have := part_w (y := y) (f0 := f0) (f1 := f1) h2
  rwa [h] at this
theorem finish_p {A0 A1 A2 A3 : Option Addr} {c0 c1 c2 c3 : Nat} {rows : List (List Int)} {owners cm : List Int} {ep row : Int} {parts : List Int} {f0 f1 : Int} {ok : Bool} {e : Int} {W : World} (h0 : Sl (Kd.slice 3 (Kd.int .i64)) W A0 c0 rows) (h1 : Sl (Kd.int .i64) W A1 c1 owners) (h2 : Sl (Kd.int .i64) W A2 c2 cm) (h3 : Sl (Kd.int .i64) W A3 c3 parts) (h : finishQ rows owners cm row parts = (f0, f1, ok, e)) :
    Calls Try.prog 45 #[.agg #[.int .i64 ep, .slice A0 rows.length c0, .slice A1 owners.length c1, .slice A2 cm.length c2], .int .i64 row, .slice A3 parts.length c3] W fun e' w' => e' = .returned (.tuple #[.agg #[.int .i64 f0, .int .i64 f1], .bool ok, .int .i64 e]) ∧ Below W.heap.size W w' := by
  have := finish_w (ep := ep) (row := row) h0 h1 h2 h3
  rwa [h] at this
theorem same40_p {A0 A1 : Option Addr} {c0 c1 : Nat} {l m : List Int} {r : Bool} {W : World} (h0 : Sl (Kd.int .i64) W A0 c0 l) (h1 : Sl (Kd.int .i64) W A1 c1 m) (h : signatoryref40_SameInts.f 300 l m = some r) :
    Calls Try.prog 44 #[.slice A0 l.length c0, .slice A1 m.length c1] W fun e' w' => e' = .returned (.bool r) ∧ Below W.heap.size W w' :=
  (signatoryref40_SameInts.calls 300 A0 c0 l A1 c1 m r W h0.rd h0.le h1.rd h1.le h).mono fun _ _ h => ⟨h.1, h.2.below⟩
set_option maxRecDepth 100000 in
set_option maxHeartbeats 8000000 in
theorem sane40_c (w : World) : Calls Try.prog 38 #[] w fun e w' => e = .returned (.bool true) ∧ Below w.heap.size w w' := by
  go_enter Try.func38, Try.ntmps38
  go_wp2_with fail; refine (three_p _).mono ?_; rintro e w1 ⟨Ao, co, Bo, do_, rfl, ho, hp, hb⟩; have HB := Aside0.mk hb; have H_rows := Aside0.mk ho; have H_own := Aside0.mk hp; clear hb ho hp; go_wp2_with fail
  obtain ⟨w2, hw⟩ : ∃ W_, W_ = w1.alloc (.cells #[.int .i64 1, .int .i64 2] 3) := ⟨_, rfl⟩
  rw [← hw]
  have hb : Below w1.heap.size w1 w2 := by rw [hw]; exact below_alloc1 _ _
  have hz : w1.heap.size = w1.heap.size := rfl
  have hs : w2.heap.size = w1.heap.size + 1 := by rw [hw, ← hz]; simp
  have hl : Sl (Kd.int .i64) w2 (some ⟨w1.heap.size, 0, none⟩) 2 [1, 2] := by rw [hw, ← hz]; exact Sl.ints w1 3 [1, 2] (by decide)
  replace H_rows := Aside0.mk (H_rows.out.below hb); replace H_own := Aside0.mk (H_own.out.below hb); replace HB := Aside0.mk (below_then HB.out HB.out.size hb)
  have H_i1 := Aside0.mk hl; clear hl
  clear hw hb hz
  have HZ := Aside0.mk hs; clear hs
  refine (plan_p H_rows.out H_own.out H_i1.out ex3_plan).mono ?_; rintro e w3 ⟨Ay, cy, rfl, h1, hb⟩; clear H_rows; clear H_own; clear H_i1; replace HB := Aside0.mk (below_then HB.out HB.out.size hb); have H_y := Aside0.mk h1; clear hb h1; go_wp2_with fail; refine (three_p _).mono ?_; rintro e w4 ⟨Ao, co, Bo, do_, rfl, ho, hp, hb⟩; replace H_y := Aside0.mk (H_y.out.below hb); replace HB := Aside0.mk (below_then HB.out HB.out.size hb); have H_rows := Aside0.mk ho; have H_own := Aside0.mk hp; clear hb ho hp; go_wp2_with fail; refine (plan_p H_rows.out H_own.out (Sl.none_ _ _) ex3_plan0).mono ?_; rintro e w5 ⟨_, _, rfl, _, hb⟩; replace H_y := Aside0.mk (H_y.out.below hb); clear H_rows; clear H_own; replace HB := Aside0.mk (below_then HB.out HB.out.size hb); clear hb; go_wp2_with fail; refine (three_p _).mono ?_; rintro e w6 ⟨Ao, co, Bo, do_, rfl, ho, hp, hb⟩; replace H_y := Aside0.mk (H_y.out.below hb); replace HB := Aside0.mk (below_then HB.out HB.out.size hb); have H_rows := Aside0.mk ho; have H_own := Aside0.mk hp; clear hb ho hp; go_wp2_with fail
  obtain ⟨w7, hw⟩ : ∃ W_, W_ = w6.alloc (.cells #[.int .i64 0, .int .i64 1] 3) := ⟨_, rfl⟩
  rw [← hw]
  have hb : Below w6.heap.size w6 w7 := by rw [hw]; exact below_alloc1 _ _
  have hz : w6.heap.size = w6.heap.size := rfl
  have hs : w7.heap.size = w6.heap.size + 1 := by rw [hw, ← hz]; simp
  have hl : Sl (Kd.int .i64) w7 (some ⟨w6.heap.size, 0, none⟩) 2 [0, 1] := by rw [hw, ← hz]; exact Sl.ints w6 3 [0, 1] (by decide)
  replace H_y := Aside0.mk (H_y.out.below hb); replace H_rows := Aside0.mk (H_rows.out.below hb); replace H_own := Aside0.mk (H_own.out.below hb); replace HB := Aside0.mk (below_then HB.out HB.out.size hb)
  have H_i1 := Aside0.mk hl; clear hl
  clear hw hb hz
  have HZ := Aside0.mk hs; clear hs
  refine (plan_p H_rows.out H_own.out H_i1.out ex3_plan1).mono ?_; rintro e w8 ⟨_, _, rfl, _, hb⟩; replace H_y := Aside0.mk (H_y.out.below hb); clear H_rows; clear H_own; clear H_i1; replace HB := Aside0.mk (below_then HB.out HB.out.size hb); clear hb; go_wp2_with fail; refine (part_p (Sl.none_ _ _) ex_part1).mono ?_; rintro e w9 ⟨rfl, hb⟩; replace H_y := Aside0.mk (H_y.out.below hb); replace HB := Aside0.mk (below_then HB.out HB.out.size hb); clear hb; go_wp2_with fail
  obtain ⟨w10, hw⟩ : ∃ W_, W_ = w9.alloc (.cells #[.int .i64 1073741784] 3) := ⟨_, rfl⟩
  rw [← hw]
  have hb : Below w9.heap.size w9 w10 := by rw [hw]; exact below_alloc1 _ _
  have hz : w9.heap.size = w9.heap.size := rfl
  have hs : w10.heap.size = w9.heap.size + 1 := by rw [hw, ← hz]; simp
  have hl : Sl (Kd.int .i64) w10 (some ⟨w9.heap.size, 0, none⟩) 1 [1073741784] := by rw [hw, ← hz]; exact Sl.ints w9 3 [1073741784] (by decide)
  replace H_y := Aside0.mk (H_y.out.below hb); replace HB := Aside0.mk (below_then HB.out HB.out.size hb)
  have H_i1 := Aside0.mk hl; clear hl
  clear hw hb hz
  have HZ := Aside0.mk hs; clear hs
  refine (part_p H_i1.out ex_part2).mono ?_; rintro e w11 ⟨rfl, hb⟩; replace H_y := Aside0.mk (H_y.out.below hb); clear H_i1; replace HB := Aside0.mk (below_then HB.out HB.out.size hb); clear hb; go_wp2_with fail; refine (part_p (Sl.none_ _ _) ex_part3).mono ?_; rintro e w12 ⟨rfl, hb⟩; replace H_y := Aside0.mk (H_y.out.below hb); replace HB := Aside0.mk (below_then HB.out HB.out.size hb); clear hb; go_wp2_with fail; refine (part_p (Sl.none_ _ _) ex_part4).mono ?_; rintro e w13 ⟨rfl, hb⟩; replace H_y := Aside0.mk (H_y.out.below hb); replace HB := Aside0.mk (below_then HB.out HB.out.size hb); clear hb; go_wp2_with fail
  obtain ⟨w14, hw⟩ : ∃ W_, W_ = w13.alloc (.cells #[.int .i64 2, .int .i64 1073741788] 3) := ⟨_, rfl⟩
  rw [← hw]
  have hb : Below w13.heap.size w13 w14 := by rw [hw]; exact below_alloc1 _ _
  have hz : w13.heap.size = w13.heap.size := rfl
  have hs : w14.heap.size = w13.heap.size + 1 := by rw [hw, ← hz]; simp
  have hl : Sl (Kd.int .i64) w14 (some ⟨w13.heap.size, 0, none⟩) 2 [2, 1073741788] := by rw [hw, ← hz]; exact Sl.ints w13 3 [2, 1073741788] (by decide)
  replace H_y := Aside0.mk (H_y.out.below hb); replace HB := Aside0.mk (below_then HB.out HB.out.size hb)
  have H_i1 := Aside0.mk hl; clear hl
  clear hw hb hz
  have HZ := Aside0.mk hs; clear hs
  refine (same40_p (r := true) H_y.out H_i1.out (by decide +kernel)).mono ?_; rintro e w15 ⟨rfl, hb⟩; clear H_y; clear H_i1; replace HB := Aside0.mk (below_then HB.out HB.out.size hb); clear hb; go_wp2_with fail; refine (three_p _).mono ?_; rintro e w16 ⟨Ao, co, Bo, do_, rfl, ho, hp, hb⟩; replace HB := Aside0.mk (below_then HB.out HB.out.size hb); have H_rows := Aside0.mk ho; have H_own := Aside0.mk hp; clear hb ho hp; go_wp2_with fail
  obtain ⟨w17, hw⟩ : ∃ W_, W_ = w16.alloc (.cells #[.int .i64 9] 3) := ⟨_, rfl⟩
  rw [← hw]
  have hb : Below w16.heap.size w16 w17 := by rw [hw]; exact below_alloc1 _ _
  have hz : w16.heap.size = w16.heap.size := rfl
  have hs : w17.heap.size = w16.heap.size + 1 := by rw [hw, ← hz]; simp
  have hl : Sl (Kd.int .i64) w17 (some ⟨w16.heap.size, 0, none⟩) 1 [9] := by rw [hw, ← hz]; exact Sl.ints w16 3 [9] (by decide)
  replace H_rows := Aside0.mk (H_rows.out.below hb); replace H_own := Aside0.mk (H_own.out.below hb); replace HB := Aside0.mk (below_then HB.out HB.out.size hb)
  have H_i1 := Aside0.mk hl; clear hl
  clear hw hb hz
  have HZ := Aside0.mk hs; clear hs
  refine (deal_p H_rows.out H_own.out H_i1.out ex3_deal).mono ?_; rintro e w18 ⟨As, cs, Ac, cc, rfl, _, h2, hb⟩; clear H_rows; clear H_own; clear H_i1; replace HB := Aside0.mk (below_then HB.out HB.out.size hb); have H_cm := Aside0.mk h2; clear hb h2; go_wp2_with fail; refine (three_p _).mono ?_; rintro e w19 ⟨Ao, co, Bo, do_, rfl, ho, hp, hb⟩; replace H_cm := Aside0.mk (H_cm.out.below hb); replace HB := Aside0.mk (below_then HB.out HB.out.size hb); have H_rows := Aside0.mk ho; have H_own := Aside0.mk hp; clear hb ho hp; go_wp2_with fail
  obtain ⟨w20, hw⟩ : ∃ W_, W_ = w19.alloc (.cells #[.int .i64 0, .slice Ao 3 co, .slice Bo 3 do_, .slice Ac 2 cc] 57) := ⟨_, rfl⟩
  rw [← hw]
  have hb : Below w19.heap.size w19 w20 := by rw [hw]; exact below_alloc1 _ _
  have hz : w19.heap.size = w19.heap.size := rfl
  have hs : w20.heap.size = w19.heap.size + 1 := by rw [hw, ← hz]; simp
  replace H_cm := Aside0.mk (H_cm.out.below hb); replace H_rows := Aside0.mk (H_rows.out.below hb); replace H_own := Aside0.mk (H_own.out.below hb); replace HB := Aside0.mk (below_then HB.out HB.out.size hb); have H_ky0 := Aside0.mk (⟨by rw [hw, ← hz]; simp only [World.cell?]; rw [World.alloc_heap_new]; rfl, by rw [hs]; omega⟩ : w20.cell? ⟨w19.heap.size, 0, none⟩ = some (.int .i64 0) ∧ w19.heap.size < w20.heap.size); have H_ky1 := Aside0.mk (⟨by rw [hw, ← hz]; simp only [World.cell?]; rw [World.alloc_heap_new]; rfl, by rw [hs]; omega⟩ : w20.cell? ⟨w19.heap.size, 1, none⟩ = some (.slice Ao 3 co) ∧ w19.heap.size < w20.heap.size); have H_ky2 := Aside0.mk (⟨by rw [hw, ← hz]; simp only [World.cell?]; rw [World.alloc_heap_new]; rfl, by rw [hs]; omega⟩ : w20.cell? ⟨w19.heap.size, 2, none⟩ = some (.slice Bo 3 do_) ∧ w19.heap.size < w20.heap.size); have H_ky3 := Aside0.mk (⟨by rw [hw, ← hz]; simp only [World.cell?]; rw [World.alloc_heap_new]; rfl, by rw [hs]; omega⟩ : w20.cell? ⟨w19.heap.size, 3, none⟩ = some (.slice Ac 2 cc) ∧ w19.heap.size < w20.heap.size); clear hw hb hz
  have HZ := Aside0.mk hs; clear hs
  obtain ⟨w21, hw⟩ : ∃ W_, W_ = w20.alloc (.cells #[.int .i64 50] 3) := ⟨_, rfl⟩
  rw [← hw]
  have hb : Below w20.heap.size w20 w21 := by rw [hw]; exact below_alloc1 _ _
  have hz : w20.heap.size = w19.heap.size + 1 := HZ.out
  have hs : w21.heap.size = w19.heap.size + 1 + 1 := by rw [hw, ← hz]; simp
  have hl : Sl (Kd.int .i64) w21 (some ⟨w19.heap.size + 1, 0, none⟩) 1 [50] := by rw [hw, ← hz]; exact Sl.ints w20 3 [50] (by decide)
  replace H_cm := Aside0.mk (H_cm.out.below hb); replace H_rows := Aside0.mk (H_rows.out.below hb); replace H_own := Aside0.mk (H_own.out.below hb); replace H_ky0 := Aside0.mk (cell_on H_ky0.out hb); replace H_ky1 := Aside0.mk (cell_on H_ky1.out hb); replace H_ky2 := Aside0.mk (cell_on H_ky2.out hb); replace H_ky3 := Aside0.mk (cell_on H_ky3.out hb); replace HB := Aside0.mk (below_then HB.out HB.out.size hb)
  have H_i1 := Aside0.mk hl; clear hl
  clear hw hb hz
  have HZ := Aside0.mk hs; clear hs
  refine (part_p H_i1.out ex_part5).mono ?_; rintro e w22 ⟨rfl, hb⟩; replace H_cm := Aside0.mk (H_cm.out.below hb); replace H_rows := Aside0.mk (H_rows.out.below hb); replace H_own := Aside0.mk (H_own.out.below hb); replace H_ky0 := Aside0.mk (cell_on H_ky0.out hb); replace H_ky1 := Aside0.mk (cell_on H_ky1.out hb); replace H_ky2 := Aside0.mk (cell_on H_ky2.out hb); replace H_ky3 := Aside0.mk (cell_on H_ky3.out hb); clear H_i1; replace HB := Aside0.mk (below_then HB.out HB.out.size hb); clear hb; go_wp2_with fail
  obtain ⟨w23, hw⟩ : ∃ W_, W_ = w22.alloc (.cells #[.int .i64 1073741739] 3) := ⟨_, rfl⟩
  rw [← hw]
  have hb : Below w22.heap.size w22 w23 := by rw [hw]; exact below_alloc1 _ _
  have hz : w22.heap.size = w22.heap.size := rfl
  have hs : w23.heap.size = w22.heap.size + 1 := by rw [hw, ← hz]; simp
  have hl : Sl (Kd.int .i64) w23 (some ⟨w22.heap.size, 0, none⟩) 1 [1073741739] := by rw [hw, ← hz]; exact Sl.ints w22 3 [1073741739] (by decide)
  replace H_cm := Aside0.mk (H_cm.out.below hb); replace H_rows := Aside0.mk (H_rows.out.below hb); replace H_own := Aside0.mk (H_own.out.below hb); replace H_ky0 := Aside0.mk (cell_on H_ky0.out hb); replace H_ky1 := Aside0.mk (cell_on H_ky1.out hb); replace H_ky2 := Aside0.mk (cell_on H_ky2.out hb); replace H_ky3 := Aside0.mk (cell_on H_ky3.out hb); replace HB := Aside0.mk (below_then HB.out HB.out.size hb)
  have H_i1 := Aside0.mk hl; clear hl
  clear hw hb hz
  have HZ := Aside0.mk hs; clear hs
  refine (part_p H_i1.out ex_part6).mono ?_; rintro e w24 ⟨rfl, hb⟩; replace H_cm := Aside0.mk (H_cm.out.below hb); replace H_rows := Aside0.mk (H_rows.out.below hb); replace H_own := Aside0.mk (H_own.out.below hb); replace H_ky0 := Aside0.mk (cell_on H_ky0.out hb); replace H_ky1 := Aside0.mk (cell_on H_ky1.out hb); replace H_ky2 := Aside0.mk (cell_on H_ky2.out hb); replace H_ky3 := Aside0.mk (cell_on H_ky3.out hb); clear H_i1; replace HB := Aside0.mk (below_then HB.out HB.out.size hb); clear hb; have x_ky0 := H_ky0.out.1; have x_ky1 := H_ky1.out.1; have x_ky2 := H_ky2.out.1; have x_ky3 := H_ky3.out.1; go_wp2_with fail; clear x_ky0 x_ky1 x_ky2 x_ky3
  obtain ⟨w25, hw⟩ : ∃ W_, W_ = w24.alloc (.cells #[.int .i64 286, .int .i64 1073741612] 3) := ⟨_, rfl⟩
  rw [← hw]
  have hb : Below w24.heap.size w24 w25 := by rw [hw]; exact below_alloc1 _ _
  have hz : w24.heap.size = w24.heap.size := rfl
  have hs : w25.heap.size = w24.heap.size + 1 := by rw [hw, ← hz]; simp
  have hl : Sl (Kd.int .i64) w25 (some ⟨w24.heap.size, 0, none⟩) 2 [286, 1073741612] := by rw [hw, ← hz]; exact Sl.ints w24 3 [286, 1073741612] (by decide)
  replace H_cm := Aside0.mk (H_cm.out.below hb); replace H_rows := Aside0.mk (H_rows.out.below hb); replace H_own := Aside0.mk (H_own.out.below hb); replace H_ky0 := Aside0.mk (cell_on H_ky0.out hb); replace H_ky1 := Aside0.mk (cell_on H_ky1.out hb); replace H_ky2 := Aside0.mk (cell_on H_ky2.out hb); replace H_ky3 := Aside0.mk (cell_on H_ky3.out hb); replace HB := Aside0.mk (below_then HB.out HB.out.size hb)
  have H_i1 := Aside0.mk hl; clear hl
  clear hw hb hz
  have HZ := Aside0.mk hs; clear hs
  refine (finish_p H_rows.out H_own.out H_cm.out H_i1.out ex_fin1).mono ?_; rintro e w26 ⟨rfl, hb⟩; replace H_cm := Aside0.mk (H_cm.out.below hb); replace H_rows := Aside0.mk (H_rows.out.below hb); replace H_own := Aside0.mk (H_own.out.below hb); replace H_ky0 := Aside0.mk (cell_on H_ky0.out hb); replace H_ky1 := Aside0.mk (cell_on H_ky1.out hb); replace H_ky2 := Aside0.mk (cell_on H_ky2.out hb); replace H_ky3 := Aside0.mk (cell_on H_ky3.out hb); clear H_i1; replace HB := Aside0.mk (below_then HB.out HB.out.size hb); clear hb
  go_upto_region 15 with fail
  obtain ⟨w27, hw⟩ : ∃ W_, W_ = w26.alloc (.cells #[.int .i64 0, .int .i64 109] 38) := ⟨_, rfl⟩
  rw [← hw]
  have hb : Below w26.heap.size w26 w27 := by rw [hw]; exact below_alloc1 _ _
  have hz : w26.heap.size = w26.heap.size := rfl
  have hs : w27.heap.size = w26.heap.size + 1 := by rw [hw, ← hz]; simp
  replace H_cm := Aside0.mk (H_cm.out.below hb); replace H_rows := Aside0.mk (H_rows.out.below hb); replace H_own := Aside0.mk (H_own.out.below hb); replace H_ky0 := Aside0.mk (cell_on H_ky0.out hb); replace H_ky1 := Aside0.mk (cell_on H_ky1.out hb); replace H_ky2 := Aside0.mk (cell_on H_ky2.out hb); replace H_ky3 := Aside0.mk (cell_on H_ky3.out hb); replace HB := Aside0.mk (below_then HB.out HB.out.size hb); have H_fs0 := Aside0.mk (⟨by rw [hw, ← hz]; simp only [World.cell?]; rw [World.alloc_heap_new]; rfl, by rw [hs]; omega⟩ : w27.cell? ⟨w26.heap.size, 0, none⟩ = some (.int .i64 0) ∧ w26.heap.size < w27.heap.size); have H_fs1 := Aside0.mk (⟨by rw [hw, ← hz]; simp only [World.cell?]; rw [World.alloc_heap_new]; rfl, by rw [hs]; omega⟩ : w27.cell? ⟨w26.heap.size, 1, none⟩ = some (.int .i64 109) ∧ w26.heap.size < w27.heap.size); clear hw hb hz
  have HZ := Aside0.mk hs; clear hs
  have x_ky0 := H_ky0.out.1; have x_ky1 := H_ky1.out.1; have x_ky2 := H_ky2.out.1; have x_ky3 := H_ky3.out.1; go_wp2_with fail; clear x_ky0 x_ky1 x_ky2 x_ky3
  obtain ⟨w28, hw⟩ : ∃ W_, W_ = w27.alloc (.cells #[.int .i64 286, .int .i64 1073741612, .int .i64 1] 3) := ⟨_, rfl⟩
  rw [← hw]
  have hb : Below w27.heap.size w27 w28 := by rw [hw]; exact below_alloc1 _ _
  have hz : w27.heap.size = w27.heap.size := rfl
  have hs : w28.heap.size = w27.heap.size + 1 := by rw [hw, ← hz]; simp
  have hl : Sl (Kd.int .i64) w28 (some ⟨w27.heap.size, 0, none⟩) 3 [286, 1073741612, 1] := by rw [hw, ← hz]; exact Sl.ints w27 3 [286, 1073741612, 1] (by decide)
  replace H_cm := Aside0.mk (H_cm.out.below hb); replace H_rows := Aside0.mk (H_rows.out.below hb); replace H_own := Aside0.mk (H_own.out.below hb); replace H_ky0 := Aside0.mk (cell_on H_ky0.out hb); replace H_ky1 := Aside0.mk (cell_on H_ky1.out hb); replace H_ky2 := Aside0.mk (cell_on H_ky2.out hb); replace H_ky3 := Aside0.mk (cell_on H_ky3.out hb); replace H_fs0 := Aside0.mk (cell_on H_fs0.out hb); replace H_fs1 := Aside0.mk (cell_on H_fs1.out hb); replace HB := Aside0.mk (below_then HB.out HB.out.size hb)
  have H_i1 := Aside0.mk hl; clear hl
  clear hw hb hz
  have HZ := Aside0.mk hs; clear hs
  refine (finish_p H_rows.out H_own.out H_cm.out H_i1.out ex_fin2).mono ?_; rintro e w29 ⟨rfl, hb⟩; replace H_cm := Aside0.mk (H_cm.out.below hb); replace H_rows := Aside0.mk (H_rows.out.below hb); replace H_own := Aside0.mk (H_own.out.below hb); replace H_ky0 := Aside0.mk (cell_on H_ky0.out hb); replace H_ky1 := Aside0.mk (cell_on H_ky1.out hb); replace H_ky2 := Aside0.mk (cell_on H_ky2.out hb); replace H_ky3 := Aside0.mk (cell_on H_ky3.out hb); replace H_fs0 := Aside0.mk (cell_on H_fs0.out hb); replace H_fs1 := Aside0.mk (cell_on H_fs1.out hb); clear H_i1; replace HB := Aside0.mk (below_then HB.out HB.out.size hb); clear hb
  go_upto_region 16 with fail
  obtain ⟨w30, hw⟩ : ∃ W_, W_ = w29.alloc (.cells #[.int .i64 0, .int .i64 0] 38) := ⟨_, rfl⟩
  rw [← hw]
  have hb : Below w29.heap.size w29 w30 := by rw [hw]; exact below_alloc1 _ _
  have hz : w29.heap.size = w29.heap.size := rfl
  have hs : w30.heap.size = w29.heap.size + 1 := by rw [hw, ← hz]; simp
  replace H_cm := Aside0.mk (H_cm.out.below hb); replace H_rows := Aside0.mk (H_rows.out.below hb); replace H_own := Aside0.mk (H_own.out.below hb); replace H_ky0 := Aside0.mk (cell_on H_ky0.out hb); replace H_ky1 := Aside0.mk (cell_on H_ky1.out hb); replace H_ky2 := Aside0.mk (cell_on H_ky2.out hb); replace H_ky3 := Aside0.mk (cell_on H_ky3.out hb); replace H_fs0 := Aside0.mk (cell_on H_fs0.out hb); replace H_fs1 := Aside0.mk (cell_on H_fs1.out hb); replace HB := Aside0.mk (below_then HB.out HB.out.size hb); have H_fq0 := Aside0.mk (⟨by rw [hw, ← hz]; simp only [World.cell?]; rw [World.alloc_heap_new]; rfl, by rw [hs]; omega⟩ : w30.cell? ⟨w29.heap.size, 0, none⟩ = some (.int .i64 0) ∧ w29.heap.size < w30.heap.size); have H_fq1 := Aside0.mk (⟨by rw [hw, ← hz]; simp only [World.cell?]; rw [World.alloc_heap_new]; rfl, by rw [hs]; omega⟩ : w30.cell? ⟨w29.heap.size, 1, none⟩ = some (.int .i64 0) ∧ w29.heap.size < w30.heap.size); clear hw hb hz
  have HZ := Aside0.mk hs; clear hs
  have x_ky0 := H_ky0.out.1; have x_ky1 := H_ky1.out.1; have x_ky2 := H_ky2.out.1; have x_ky3 := H_ky3.out.1; go_wp2_with fail; clear x_ky0 x_ky1 x_ky2 x_ky3; refine (finish_p H_rows.out H_own.out H_cm.out (Sl.none_ _ _) ex_fin3).mono ?_; rintro e w31 ⟨rfl, hb⟩; clear H_cm; clear H_rows; clear H_own; clear H_ky0; clear H_ky1; clear H_ky2; clear H_ky3; replace H_fs0 := Aside0.mk (cell_on H_fs0.out hb); replace H_fs1 := Aside0.mk (cell_on H_fs1.out hb); clear H_fq0; clear H_fq1; replace HB := Aside0.mk (below_then HB.out HB.out.size hb); clear hb; go_wp2_with fail
  obtain ⟨w32, hw⟩ : ∃ W_, W_ = w31.alloc (.cells #[.int .i64 0, .int .i64 0] 38) := ⟨_, rfl⟩
  rw [← hw]
  have hb : Below w31.heap.size w31 w32 := by rw [hw]; exact below_alloc1 _ _
  have hz : w31.heap.size = w31.heap.size := rfl
  have hs : w32.heap.size = w31.heap.size + 1 := by rw [hw, ← hz]; simp
  replace H_fs0 := Aside0.mk (cell_on H_fs0.out hb); replace H_fs1 := Aside0.mk (cell_on H_fs1.out hb); replace HB := Aside0.mk (below_then HB.out HB.out.size hb); have H_fq0 := Aside0.mk (⟨by rw [hw, ← hz]; simp only [World.cell?]; rw [World.alloc_heap_new]; rfl, by rw [hs]; omega⟩ : w32.cell? ⟨w31.heap.size, 0, none⟩ = some (.int .i64 0) ∧ w31.heap.size < w32.heap.size); have H_fq1 := Aside0.mk (⟨by rw [hw, ← hz]; simp only [World.cell?]; rw [World.alloc_heap_new]; rfl, by rw [hs]; omega⟩ : w32.cell? ⟨w31.heap.size, 1, none⟩ = some (.int .i64 0) ∧ w31.heap.size < w32.heap.size); clear hw hb hz
  have HZ := Aside0.mk hs; clear hs
  refine (three_p _).mono ?_; rintro e w33 ⟨Ao, co, Bo, do_, rfl, ho, hp, hb⟩; replace H_fs0 := Aside0.mk (cell_on H_fs0.out hb); replace H_fs1 := Aside0.mk (cell_on H_fs1.out hb); clear H_fq0; clear H_fq1; replace HB := Aside0.mk (below_then HB.out HB.out.size hb); have H_rows := Aside0.mk ho; have H_own := Aside0.mk hp; clear hb ho hp; go_wp2_with fail; refine (finish_p H_rows.out H_own.out (Sl.none_ _ _) (Sl.none_ _ _) ex_fin4).mono ?_; rintro e w34 ⟨rfl, hb⟩; replace H_fs0 := Aside0.mk (cell_on H_fs0.out hb); replace H_fs1 := Aside0.mk (cell_on H_fs1.out hb); clear H_rows; clear H_own; replace HB := Aside0.mk (below_then HB.out HB.out.size hb); clear hb
  have x0 := H_fs0.out.1; have x1 := H_fs1.out.1; have x2 := H_fs0.out.2
  go_wp2
  go_ret
  exact ⟨by first | rfl | simp, by first | exact HB.out | exact below_then HB.out HB.out.size (below_alloc1 _ _)⟩
def signatorylaw40_sane.f : Option Bool := some true
theorem signatorylaw40_sane.calls (r : Bool) (w : World) (h : signatorylaw40_sane.f = some r) :
    Calls Try.prog 38 #[] w fun e w' => e = .returned (.bool r) ∧ Below w.heap.size w w' := by
  cases Option.some.inj h; exact sane40_c w
end Go.Proofs.Ytdbamhckgaoibaa.P
