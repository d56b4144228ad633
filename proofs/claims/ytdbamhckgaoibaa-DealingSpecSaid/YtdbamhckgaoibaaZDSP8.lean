/- A part of the proof of DealingSpec: The calls of signatoryref23.Check, signatoryref23.Columns, signatoryref34.Columns, signatoryref34.Small, signatoryref34.SameInts, signatoryref34.Same, signatory; The reference's Check says what program.Check says.; The numbers that the statements of chapter 34 draw, in plain words.; slices.Grow of nothing, slices.Concat.; dealing.Deal in plain words.; dealing.Deal, Public and Fits of what was dealt.; What comparing lists answers; and examples that the sanity functions ask, reckoned without any inverse but that of 1. -/
import Derived.Test.YtdbamhckgaoibaaZDSP7
namespace Go.Proofs.Ytdbamhckgaoibaa.P
open Go.RowKit Go.Proofs.YtdbamhckgaoibaaW.PrintWords Go.Proofs.YtdbamhckgaoibaaW.PrintLast Go.Proofs.YtdbamhckgaoibaaW.PrintMore
attribute [local go_sem] max2_int min2_int max_two min_two max_three min_three max_four min_four
set_option linter.unusedVariables false
set_option linter.unusedSimpArgs false
attribute [local go_sem high] eqA38
mutual
def signatoryref23_Check.l0 : Nat → Int → List (List Int) → List Int → Option (Int)
 | 0, _, _, _ => none
 | k + 1, x3, x263000, x263001 => if x3 < (x263000.length : Int) then (if 0 ≤ x3 then (if ((rd_L1 x263000 x3).length : Int) > 64 then (some 2) else (signatoryref23_Check.l0 k (wrap64 (x3 + 1)) x263000 x263001)) else (none)) else (if (x263000.length : Int) = (x263001.length : Int) then (signatoryref23_Check.l1 k 0 x263000 x263001) else (some 230))
def signatoryref23_Check.l1 : Nat → Int → List (List Int) → List Int → Option (Int)
 | 0, _, _, _ => none
 | k + 1, x4, x263000, x263001 => if x4 < (x263000.length : Int) then (if 0 ≤ x4 then (if ((rd_L1 x263000 x4).length : Int) < 1 then (signatoryref23_Check.j2 k x4 true x263000 x263001) else (if 0 < (x263000.length : Int) then (if ((rd_L1 x263000 x4).length : Int) = ((rd_L1 x263000 0).length : Int) then (if x4 < (x263001.length : Int) then (if (rd x263001 x4) < 0 then (signatoryref23_Check.j2 k x4 true x263000 x263001) else (signatoryref23_Check.j2 k x4 (decide ((rd x263001 x4) ≥ 64)) x263000 x263001)) else (none)) else (signatoryref23_Check.j2 k x4 true x263000 x263001)) else (none))) else (none)) else (some 0)
def signatoryref23_Check.j2 : Nat → Int → Bool → List (List Int) → List Int → Option (Int)
 | 0, _, _, _, _ => none
 | k + 1, x4, x74, x263000, x263001 => if x74 = true then (some 230) else (signatoryref23_Check.l2 k x4 0 x263000 x263001)
def signatoryref23_Check.l2 : Nat → Int → Int → List (List Int) → List Int → Option (Int)
 | 0, _, _, _, _ => none
 | k + 1, x4, x5, x263000, x263001 => if 0 ≤ x4 then (if x4 < (x263000.length : Int) then (if x5 < ((rd_L1 x263000 x4).length : Int) then (if 0 ≤ x5 then (if (rd (rd_L1 x263000 x4) x5) < 0 then (some 230) else (if (rd (rd_L1 x263000 x4) x5) ≥ 1073741789 then (some 230) else (signatoryref23_Check.l2 k x4 (wrap64 (x5 + 1)) x263000 x263001))) else (none)) else (signatoryref23_Check.l1 k (wrap64 (x4 + 1)) x263000 x263001)) else (none)) else (none)
end
def signatoryref23_Check.f (k : Nat) (l0_0 : List (List Int)) (l0_1 : List Int) : Option (Int) := if (l0_0.length : Int) > 64 then (some 2) else (signatoryref23_Check.l0 k 0 l0_0 l0_1)
set_option maxHeartbeats 8000000 in
set_option maxRecDepth 100000 in
theorem signatoryref23_Check.calls (k : Nat) (A0_0 : Option Addr) (c0_0 : Nat) (l0_0 : List (List Int)) (A0_1 : Option Addr) (c0_1 : Nat) (l0_1 : List Int) (r : Int) (w : World) (hr0_0 : Kd.C (Kd.slice 3 (Kd.int .i64)) w A0_0 l0_0.length l0_0) (hc0_0 : l0_0.length ≤ c0_0) (hr0_1 : Kd.C (Kd.int .i64) w A0_1 l0_1.length l0_1) (hc0_1 : l0_1.length ≤ c0_1) (h : signatoryref23_Check.f k l0_0 l0_1 = some r) :
  Calls Try.prog 58 #[.agg #[.slice A0_0 l0_0.length c0_0, .slice A0_1 l0_1.length c0_1]] w fun e w' => e = .returned (.int .i64 r) ∧ Below w.heap.size w w' := by
 have hu25 := Try.underlying25; have HR0_0 := Aside0.mk hr0_0; have HC0_0 := Aside0.mk hc0_0; clear hr0_0 hc0_0; have HR0_1 := Aside0.mk hr0_1; have HC0_1 := Aside0.mk hc0_1; clear hr0_1 hc0_1; have HB := Aside0.mk (Below.refl w.heap.size w); have H : (if (l0_0.length : Int) > 64 then (some 2) else (signatoryref23_Check.l0 k 0 l0_0 l0_1)) = some r := h; clear h
 by_cases c2 : (l0_0.length : Int) > 64
 ·rw [if_pos c2] at H
  have c2b0 : decide (64 < (l0_0.length : Int)) = true := decide_eq_true c2; have c2b1 : decide (64 < l0_0.length) = true := decide_eq_true (by omega); clear c2; obtain rfl := Option.some.inj H
  go_enter Try.func58, Try.ntmps58
  go_wp2_with (first | ((with_reducible refine gate_dst (N := 1) rfl ?_); (try (refine gate_guard (by rfl) ?_; dsimp only)); refine box_event ?hg (N := 1) ?hd (cs := #[.slice A0_0 l0_0.length c0_0, .slice A0_1 l0_1.length c0_1]) (t := 25) ?hr ?_; (case hd => rfl); (case hg => rfl); (case hr => first | (go_simp; done) | (go_simp; rfl)); intro gb262 hg w3 hbox hb; have n0_ := Aside0.mk (below_step hb_ hb); have n1_ := Aside0.mk (hbox); have n2_ := Aside0.mk ((by rw [hg]; exact (below_size hb_) : w.heap.size ≤ gb262)); have n3_ := Aside0.mk ((by rw [hg]; exact (below_size hb_) : w.heap.size ≤ gb262)); clear HB; have HB := n0_; have BK262 := n1_; have GW262 := n2_; have GE_ := n3_; clear n0_ n1_ n2_ n3_; clear hb hbox hg; have hcz4_0 : w3.cell? ⟨gb262, 0, none⟩ = some (.slice A0_0 l0_0.length c0_0) := (blk_cell BK262.out 0).trans rfl; have hcz4_1 : w3.cell? ⟨gb262, 1, none⟩ = some (.slice A0_1 l0_1.length c0_1) := (blk_cell BK262.out 1).trans rfl; have hfz4_0 := blk_frozen BK262.out 0; have hfz4_1 := blk_frozen BK262.out 1))
  repeat (go_quiet (first | ((with_reducible refine gate_dst (N := 1) rfl ?_); (try (refine gate_guard (by rfl) ?_; dsimp only)); refine box_event ?hg (N := 1) ?hd (cs := #[.slice A0_0 l0_0.length c0_0, .slice A0_1 l0_1.length c0_1]) (t := 25) ?hr ?_; (case hd => rfl); (case hg => rfl); (case hr => first | (go_simp; done) | (go_simp; rfl)); intro gb262 hg w3 hbox hb; have n0_ := Aside0.mk (below_step hb_ hb); have n1_ := Aside0.mk (hbox); have n2_ := Aside0.mk ((by rw [hg]; exact (below_size hb_) : w.heap.size ≤ gb262)); have n3_ := Aside0.mk ((by rw [hg]; exact (below_size hb_) : w.heap.size ≤ gb262)); clear HB; have HB := n0_; have BK262 := n1_; have GW262 := n2_; have GE_ := n3_; clear n0_ n1_ n2_ n3_; clear hb hbox hg; have hcz4_0 : w3.cell? ⟨gb262, 0, none⟩ = some (.slice A0_0 l0_0.length c0_0) := (blk_cell BK262.out 0).trans rfl; have hcz4_1 : w3.cell? ⟨gb262, 1, none⟩ = some (.slice A0_1 l0_1.length c0_1) := (blk_cell BK262.out 1).trans rfl; have hfz4_0 := blk_frozen BK262.out 0; have hfz4_1 := blk_frozen BK262.out 1)); try go_wp2_with (first | ((with_reducible refine gate_dst (N := 1) rfl ?_); (try (refine gate_guard (by rfl) ?_; dsimp only)); refine box_event ?hg (N := 1) ?hd (cs := #[.slice A0_0 l0_0.length c0_0, .slice A0_1 l0_1.length c0_1]) (t := 25) ?hr ?_; (case hd => rfl); (case hg => rfl); (case hr => first | (go_simp; done) | (go_simp; rfl)); intro gb262 hg w3 hbox hb; have n0_ := Aside0.mk (below_step hb_ hb); have n1_ := Aside0.mk (hbox); have n2_ := Aside0.mk ((by rw [hg]; exact (below_size hb_) : w.heap.size ≤ gb262)); have n3_ := Aside0.mk ((by rw [hg]; exact (below_size hb_) : w.heap.size ≤ gb262)); clear HB; have HB := n0_; have BK262 := n1_; have GW262 := n2_; have GE_ := n3_; clear n0_ n1_ n2_ n3_; clear hb hbox hg; have hcz4_0 : w3.cell? ⟨gb262, 0, none⟩ = some (.slice A0_0 l0_0.length c0_0) := (blk_cell BK262.out 0).trans rfl; have hcz4_1 : w3.cell? ⟨gb262, 1, none⟩ = some (.slice A0_1 l0_1.length c0_1) := (blk_cell BK262.out 1).trans rfl; have hfz4_0 := blk_frozen BK262.out 0; have hfz4_1 := blk_frozen BK262.out 1)))
  go_ret
  exact ⟨by first | rfl | (simp [errW_none, errW_some] <;> rfl) | (simp [*, errW_none, errW_some] <;> rfl), by repeat (first | (with_reducible first | exact HB.out | apply below_alloc | apply pw_below_drewN | apply below_drew1 | refine below_set ?_ GE_.out) | exact HB.out)⟩
 ·rw [if_neg c2] at H
  have c2b0 : decide (64 < (l0_0.length : Int)) = false := decide_eq_false c2; have c2b1 : decide (64 < l0_0.length) = false := decide_eq_false (by omega); clear c2; have H' := Aside0.mk H; clear H
  go_enter Try.func58, Try.ntmps58
  go_wp2_with (first | ((with_reducible refine gate_dst (N := 1) rfl ?_); (try (refine gate_guard (by rfl) ?_; dsimp only)); refine box_event ?hg (N := 1) ?hd (cs := #[.slice A0_0 l0_0.length c0_0, .slice A0_1 l0_1.length c0_1]) (t := 25) ?hr ?_; (case hd => rfl); (case hg => rfl); (case hr => first | (go_simp; done) | (go_simp; rfl)); intro gb262 hg w5 hbox hb; have n0_ := Aside0.mk (below_step hb_ hb); have n1_ := Aside0.mk (hbox); have n2_ := Aside0.mk ((by rw [hg]; exact (below_size hb_) : w.heap.size ≤ gb262)); have n3_ := Aside0.mk ((by rw [hg]; exact (below_size hb_) : w.heap.size ≤ gb262)); clear HB; have HB := n0_; have BK262 := n1_; have GW262 := n2_; have GE_ := n3_; clear n0_ n1_ n2_ n3_; clear hb hbox hg; have hcz6_0 : w5.cell? ⟨gb262, 0, none⟩ = some (.slice A0_0 l0_0.length c0_0) := (blk_cell BK262.out 0).trans rfl; have hcz6_1 : w5.cell? ⟨gb262, 1, none⟩ = some (.slice A0_1 l0_1.length c0_1) := (blk_cell BK262.out 1).trans rfl; have hfz6_0 := blk_frozen BK262.out 0; have hfz6_1 := blk_frozen BK262.out 1))
  repeat (go_quiet (first | ((with_reducible refine gate_dst (N := 1) rfl ?_); (try (refine gate_guard (by rfl) ?_; dsimp only)); refine box_event ?hg (N := 1) ?hd (cs := #[.slice A0_0 l0_0.length c0_0, .slice A0_1 l0_1.length c0_1]) (t := 25) ?hr ?_; (case hd => rfl); (case hg => rfl); (case hr => first | (go_simp; done) | (go_simp; rfl)); intro gb262 hg w5 hbox hb; have n0_ := Aside0.mk (below_step hb_ hb); have n1_ := Aside0.mk (hbox); have n2_ := Aside0.mk ((by rw [hg]; exact (below_size hb_) : w.heap.size ≤ gb262)); have n3_ := Aside0.mk ((by rw [hg]; exact (below_size hb_) : w.heap.size ≤ gb262)); clear HB; have HB := n0_; have BK262 := n1_; have GW262 := n2_; have GE_ := n3_; clear n0_ n1_ n2_ n3_; clear hb hbox hg; have hcz6_0 : w5.cell? ⟨gb262, 0, none⟩ = some (.slice A0_0 l0_0.length c0_0) := (blk_cell BK262.out 0).trans rfl; have hcz6_1 : w5.cell? ⟨gb262, 1, none⟩ = some (.slice A0_1 l0_1.length c0_1) := (blk_cell BK262.out 1).trans rfl; have hfz6_0 := blk_frozen BK262.out 0; have hfz6_1 := blk_frozen BK262.out 1)); try go_wp2_with (first | ((with_reducible refine gate_dst (N := 1) rfl ?_); (try (refine gate_guard (by rfl) ?_; dsimp only)); refine box_event ?hg (N := 1) ?hd (cs := #[.slice A0_0 l0_0.length c0_0, .slice A0_1 l0_1.length c0_1]) (t := 25) ?hr ?_; (case hd => rfl); (case hg => rfl); (case hr => first | (go_simp; done) | (go_simp; rfl)); intro gb262 hg w5 hbox hb; have n0_ := Aside0.mk (below_step hb_ hb); have n1_ := Aside0.mk (hbox); have n2_ := Aside0.mk ((by rw [hg]; exact (below_size hb_) : w.heap.size ≤ gb262)); have n3_ := Aside0.mk ((by rw [hg]; exact (below_size hb_) : w.heap.size ≤ gb262)); clear HB; have HB := n0_; have BK262 := n1_; have GW262 := n2_; have GE_ := n3_; clear n0_ n1_ n2_ n3_; clear hb hbox hg; have hcz6_0 : w5.cell? ⟨gb262, 0, none⟩ = some (.slice A0_0 l0_0.length c0_0) := (blk_cell BK262.out 0).trans rfl; have hcz6_1 : w5.cell? ⟨gb262, 1, none⟩ = some (.slice A0_1 l0_1.length c0_1) := (blk_cell BK262.out 1).trans rfl; have hfz6_0 := blk_frozen BK262.out 0; have hfz6_1 := blk_frozen BK262.out 1)))
  go_loopg [3] k (fun kq v3 w' => ∃ (x3_1 : Int), v3 = .int .i64 x3_1 ∧ Aside0 (signatoryref23_Check.l0 kq x3_1 l0_0 l0_1 = some r) ∧ Aside0 (kq ≤ k) ∧ Aside0 (w'.heap[gb262]? = some (.cells #[(.slice A0_0 l0_0.length c0_0), (.slice A0_1 l0_1.length c0_1)] 25 (0, 0))) ∧ Aside0 (Below w.heap.size w w'))
  case atStart => exact ⟨(0), rf_, H', ⟨Nat.le_refl _⟩, ⟨bk_ BK262.out⟩, ⟨hg_⟩⟩
  case round =>
   clear H'; (try clear c2); (try clear c2b0); (try clear c2b1); (try clear p2); (try clear c5); (try clear hcz4_0); (try clear hcz4_1); (try clear hcz6_0); (try clear hcz6_1); (try clear hfz4_0); (try clear hfz4_1); (try clear hfz6_0); (try clear hfz6_1); obtain ⟨x3_1, rfl, HA, HK1, BK262, HB⟩ := hrel
   cases gk with
   | zero => exact absurd HA.out (by simp [signatoryref23_Check.l0])
   | succ k1 =>
    have H := HA.out; clear HA; simp only [signatoryref23_Check.l0] at H
    by_cases c7 : x3_1 < (l0_0.length : Int)
    ·rw [if_pos c7] at H
     have c7b0 : decide (x3_1 < (l0_0.length : Int)) = true := decide_eq_true c7; clear c7
     by_cases c8 : 0 ≤ x3_1
     ·rw [if_pos c8] at H
      have c8b0 : decide (0 ≤ x3_1) = true := decide_eq_true c8; clear c8
      by_cases c9 : ((rd_L1 l0_0 x3_1).length : Int) > 64
      ·rw [if_pos c9] at H
       have c9b0 : decide (64 < ((rd_L1 l0_0 x3_1).length : Int)) = true := decide_eq_true c9; have c9b1 : decide (64 < (rd_L1 l0_0 x3_1).length) = true := decide_eq_true (by omega); clear c9; obtain rfl := Option.some.inj H; have hcz10_0 : wr.cell? ⟨gb262, 0, none⟩ = some (.slice A0_0 l0_0.length c0_0) := (blk_cell BK262.out 0).trans rfl; have hcz10_1 : wr.cell? ⟨gb262, 1, none⟩ = some (.slice A0_1 l0_1.length c0_1) := (blk_cell BK262.out 1).trans rfl; have hfz10_0 := blk_frozen BK262.out 0; have hfz10_1 := blk_frozen BK262.out 1; have p263 : 0 ≤ (x3_1 : Int) := of_decide_eq_true as_; have q263 : x3_1 < (l0_0.length : Int) := of_decide_eq_true as_; obtain ⟨ad263, A263_0, c263_0, e263, hx263_0, hl263_0, hi263_0⟩ := at_L1 HR0_0.out x3_1 p263 q263; cases e263; replace hx263_0 := (HB.out.cell (World.block_lt_of_cell? w _ hx263_0)).trans hx263_0; have HR263_0 := Aside0.mk hi263_0; have HC263_0 := Aside0.mk hl263_0; clear hi263_0 hl263_0; replace p263 := eq_true p263; replace q263 := eq_true q263; go_wp2
       repeat (go_quiet (fail); try go_wp2)
       go_ret
       exact ⟨by first | rfl | (simp [errW_none, errW_some] <;> rfl) | (simp [*, errW_none, errW_some] <;> rfl), by repeat (first | (with_reducible first | exact HB.out | apply below_alloc | apply pw_below_drewN | apply below_drew1 | refine below_set ?_ GE_.out) | exact HB.out)⟩
      ·rw [if_neg c9] at H
       have c9b0 : decide (64 < ((rd_L1 l0_0 x3_1).length : Int)) = false := decide_eq_false c9; have c9b1 : decide (64 < (rd_L1 l0_0 x3_1).length) = false := decide_eq_false (by omega); clear c9; have H' := Aside0.mk H; clear H; have hcz11_0 : wr.cell? ⟨gb262, 0, none⟩ = some (.slice A0_0 l0_0.length c0_0) := (blk_cell BK262.out 0).trans rfl; have hcz11_1 : wr.cell? ⟨gb262, 1, none⟩ = some (.slice A0_1 l0_1.length c0_1) := (blk_cell BK262.out 1).trans rfl; have hfz11_0 := blk_frozen BK262.out 0; have hfz11_1 := blk_frozen BK262.out 1; have p263 : 0 ≤ (x3_1 : Int) := of_decide_eq_true as_; have q263 : x3_1 < (l0_0.length : Int) := of_decide_eq_true as_; obtain ⟨ad263, A263_0, c263_0, e263, hx263_0, hl263_0, hi263_0⟩ := at_L1 HR0_0.out x3_1 p263 q263; cases e263; replace hx263_0 := (HB.out.cell (World.block_lt_of_cell? w _ hx263_0)).trans hx263_0; have HR263_0 := Aside0.mk hi263_0; have HC263_0 := Aside0.mk hl263_0; clear hi263_0 hl263_0; replace p263 := eq_true p263; replace q263 := eq_true q263; go_wp2
       repeat (go_quiet (fail); try go_wp2)
       go_roundg k1
       case measure => have := HK1.out; omega
       case rel => exact ⟨(wrap64 (x3_1 + 1)), rf_, H', ⟨by have := HK1.out; omega⟩, ⟨bk_ BK262.out⟩, ⟨hg_⟩⟩
     ·rw [if_neg c8] at H
      exact absurd H (by simp)
    ·rw [if_neg c7] at H
     have c7b0 : decide (x3_1 < (l0_0.length : Int)) = false := decide_eq_false c7; clear c7
     by_cases c12 : (l0_0.length : Int) = (l0_1.length : Int)
     ·rw [if_pos c12] at H
      have c12b0 : ((l0_0.length : Int) == (l0_1.length : Int)) = true := beq_iff_eq.mpr c12; have c12b1 : ((l0_0.length : Int) != (l0_1.length : Int)) = false := bne_eq_false_iff_eq.mpr c12
      have c12b2 : (l0_0.length == l0_1.length) = true := by first | simpa using c12 | (simp at c12 ⊢; omega)
      clear c12; have H' := Aside0.mk H; clear H; have hcz13_0 : wr.cell? ⟨gb262, 0, none⟩ = some (.slice A0_0 l0_0.length c0_0) := (blk_cell BK262.out 0).trans rfl; have hcz13_1 : wr.cell? ⟨gb262, 1, none⟩ = some (.slice A0_1 l0_1.length c0_1) := (blk_cell BK262.out 1).trans rfl; have hfz13_0 := blk_frozen BK262.out 0; have hfz13_1 := blk_frozen BK262.out 1; go_wp2
      repeat (go_quiet (fail); try go_wp2)
      go_loopg [4] k1 (fun kq v4 w' => ∃ (x4_2 : Int), v4 = .int .i64 x4_2 ∧ Aside0 (signatoryref23_Check.l1 kq x4_2 l0_0 l0_1 = some r) ∧ Aside0 (kq ≤ k1) ∧ Aside0 (w'.heap[gb262]? = some (.cells #[(.slice A0_0 l0_0.length c0_0), (.slice A0_1 l0_1.length c0_1)] 25 (0, 0))) ∧ Aside0 (Below w.heap.size w w'))
      case atStart => exact ⟨(0), rf_, H', ⟨Nat.le_refl _⟩, ⟨bk_ BK262.out⟩, ⟨hg_⟩⟩
      case round =>
       clear H'; (try clear c1); (try clear c2); (try clear c2b0); (try clear c2b1); (try clear p2); (try clear q2); (try clear hx2); (try clear c5); (try clear p6); (try clear c7); (try clear c7b0); (try clear c8); (try clear c8b0); (try clear c9); (try clear c9b0); (try clear c9b1); (try clear c12); (try clear c12b0); (try clear c12b1); (try clear c12b2); (try clear hcz10_0); (try clear hcz10_1); (try clear hcz11_0); (try clear hcz11_1); (try clear hcz13_0); (try clear hcz13_1); (try clear hcz4_0); (try clear hcz4_1); (try clear hcz6_0); (try clear hcz6_1); (try clear hfz10_0); (try clear hfz10_1); (try clear hfz11_0); (try clear hfz11_1); (try clear hfz13_0); (try clear hfz13_1); (try clear hfz4_0); (try clear hfz4_1); (try clear hfz6_0); (try clear hfz6_1); (try clear hx263_0); (try clear p2); (try clear p263); (try clear q263); obtain ⟨x4_2, rfl, HA, HK2, BK262, HB⟩ := hrel
       cases gk with
       | zero => exact absurd HA.out (by simp [signatoryref23_Check.l1])
       | succ k2 =>
        have H := HA.out; clear HA; simp only [signatoryref23_Check.l1] at H
        by_cases c14 : x4_2 < (l0_0.length : Int)
        ·rw [if_pos c14] at H
         have c14b0 : decide (x4_2 < (l0_0.length : Int)) = true := decide_eq_true c14; clear c14; have HC15 := Aside0.mk H; clear H; have hcz16_0 : wr.cell? ⟨gb262, 0, none⟩ = some (.slice A0_0 l0_0.length c0_0) := (blk_cell BK262.out 0).trans rfl; have hcz16_1 : wr.cell? ⟨gb262, 1, none⟩ = some (.slice A0_1 l0_1.length c0_1) := (blk_cell BK262.out 1).trans rfl; have hfz16_0 := blk_frozen BK262.out 0; have hfz16_1 := blk_frozen BK262.out 1
         go_upto_region 13 with (fail)
         repeat (go_quiet (fail); go_upto_region 13 with (fail))
         go_cut [74] (fun v74 wc => ∃ (kq : Nat) (x74_14 : Bool), v74 = .bool x74_14 ∧ Aside0 (signatoryref23_Check.j2 kq x4_2 x74_14 l0_0 l0_1 = some r) ∧ Aside0 (kq ≤ k2) ∧ Aside0 (wc.heap[gb262]? = some (.cells #[(.slice A0_0 l0_0.length c0_0), (.slice A0_1 l0_1.length c0_1)] 25 (0, 0))) ∧ Aside0 (Below w.heap.size w wc))
         case first =>
          have H := HC15.out; clear HC15
          by_cases c17 : 0 ≤ x4_2
          ·rw [if_pos c17] at H
           have c17b0 : decide (0 ≤ x4_2) = true := decide_eq_true c17; clear c17
           (first | rw [c17b0] | (simp only [i64_w, i32_w]; rw [c17b0]) | skip)
           by_cases c18 : ((rd_L1 l0_0 x4_2).length : Int) < 1
           ·rw [if_pos c18] at H
            have c18b0 : decide (((rd_L1 l0_0 x4_2).length : Int) < 1) = true := decide_eq_true c18; have c18b1 : decide ((rd_L1 l0_0 x4_2).length < 1) = true := decide_eq_true (by omega); clear c18; have H' := Aside0.mk H; clear H; have hcz19_0 : wr.cell? ⟨gb262, 0, none⟩ = some (.slice A0_0 l0_0.length c0_0) := (blk_cell BK262.out 0).trans rfl; have hcz19_1 : wr.cell? ⟨gb262, 1, none⟩ = some (.slice A0_1 l0_1.length c0_1) := (blk_cell BK262.out 1).trans rfl; have hfz19_0 := blk_frozen BK262.out 0; have hfz19_1 := blk_frozen BK262.out 1; have p264 : 0 ≤ (x4_2 : Int) := of_decide_eq_true as_; have q264 : x4_2 < (l0_0.length : Int) := of_decide_eq_true as_; obtain ⟨ad264, A264_0, c264_0, e264, hx264_0, hl264_0, hi264_0⟩ := at_L1 HR0_0.out x4_2 p264 q264; cases e264; replace hx264_0 := (HB.out.cell (World.block_lt_of_cell? w _ hx264_0)).trans hx264_0; have HR264_0 := Aside0.mk hi264_0; have HC264_0 := Aside0.mk hl264_0; clear hi264_0 hl264_0; replace p264 := eq_true p264; replace q264 := eq_true q264; go_wp2
            repeat (go_quiet (fail); try go_wp2)
            go_meet
            case rel => exact ⟨_, (true), rf_, H', ⟨by have := HK1.out; have := HK2.out; first | omega | exact Nat.le_refl _⟩, ⟨bk_ BK262.out⟩, ⟨hg_⟩⟩
           ·rw [if_neg c18] at H
            have c18b0 : decide (((rd_L1 l0_0 x4_2).length : Int) < 1) = false := decide_eq_false c18; have c18b1 : decide ((rd_L1 l0_0 x4_2).length < 1) = false := decide_eq_false (by omega); clear c18
            by_cases c20 : 0 < (l0_0.length : Int)
            ·rw [if_pos c20] at H
             have c20b0 : decide (0 < (l0_0.length : Int)) = true := decide_eq_true c20; have c20b1 : decide (0 < l0_0.length) = true := decide_eq_true (by omega); clear c20
             by_cases c21 : ((rd_L1 l0_0 x4_2).length : Int) = ((rd_L1 l0_0 0).length : Int)
             ·rw [if_pos c21] at H
              have c21b0 : (((rd_L1 l0_0 x4_2).length : Int) == ((rd_L1 l0_0 0).length : Int)) = true := beq_iff_eq.mpr c21; have c21b1 : (((rd_L1 l0_0 x4_2).length : Int) != ((rd_L1 l0_0 0).length : Int)) = false := bne_eq_false_iff_eq.mpr c21
              have c21b2 : ((rd_L1 l0_0 x4_2).length == (rd_L1 l0_0 0).length) = true := by first | simpa using c21 | (simp at c21 ⊢; omega)
              clear c21
              by_cases c22 : x4_2 < (l0_1.length : Int)
              ·rw [if_pos c22] at H
               have c22b0 : decide (x4_2 < (l0_1.length : Int)) = true := decide_eq_true c22; clear c22
               by_cases c23 : (rd l0_1 x4_2) < 0
               ·rw [if_pos c23] at H
                have c23b0 : decide ((rd l0_1 x4_2) < 0) = true := decide_eq_true c23; clear c23; have H' := Aside0.mk H; clear H; have hcz24_0 : wr.cell? ⟨gb262, 0, none⟩ = some (.slice A0_0 l0_0.length c0_0) := (blk_cell BK262.out 0).trans rfl; have hcz24_1 : wr.cell? ⟨gb262, 1, none⟩ = some (.slice A0_1 l0_1.length c0_1) := (blk_cell BK262.out 1).trans rfl; have hfz24_0 := blk_frozen BK262.out 0; have hfz24_1 := blk_frozen BK262.out 1; have p264 : 0 ≤ (x4_2 : Int) := of_decide_eq_true as_; have q264 : x4_2 < (l0_0.length : Int) := of_decide_eq_true as_; obtain ⟨ad264, A264_0, c264_0, e264, hx264_0, hl264_0, hi264_0⟩ := at_L1 HR0_0.out x4_2 p264 q264; cases e264; replace hx264_0 := (HB.out.cell (World.block_lt_of_cell? w _ hx264_0)).trans hx264_0; have HR264_0 := Aside0.mk hi264_0; have HC264_0 := Aside0.mk hl264_0; clear hi264_0 hl264_0; replace p264 := eq_true p264; replace q264 := eq_true q264; have p265 : 0 ≤ (x4_2 : Int) := of_decide_eq_true as_; have q265 : x4_2 < (l0_0.length : Int) := of_decide_eq_true as_; obtain ⟨ad265, A265_0, c265_0, e265, hx265_0, hl265_0, hi265_0⟩ := at_L1 HR0_0.out x4_2 p265 q265
                obtain rfl : ad264 = ad265 := (by injection e265)
                replace hx265_0 := (HB.out.cell (World.block_lt_of_cell? w _ hx265_0)).trans hx265_0; have HR265_0 := Aside0.mk hi265_0; have HC265_0 := Aside0.mk hl265_0; clear hi265_0 hl265_0; replace p265 := eq_true p265; replace q265 := eq_true q265; have ea_ := Option.some.inj (hx264_0.symm.trans hx265_0); injection ea_ with ea_ en_ ec_; subst ea_; subst ec_; clear en_
                have p266 : 0 ≤ (0 : Int) := (by omega)
                have q266 : 0 < (l0_0.length : Int) := of_decide_eq_true as_; obtain ⟨ad266, A266_0, c266_0, e266, hx266_0, hl266_0, hi266_0⟩ := at_L1 HR0_0.out 0 p266 q266
                obtain rfl : ad264 = ad266 := (by injection e266)
                have qi266 : (0 < l0_0.length) = True := eq_true (by omega); (try rw [show ((0 : Int)).toNat = 0 from rfl] at hx266_0); (try rw [Addr.add_zero'] at hx266_0); replace hx266_0 := (HB.out.cell (World.block_lt_of_cell? w _ hx266_0)).trans hx266_0; have HR266_0 := Aside0.mk hi266_0; have HC266_0 := Aside0.mk hl266_0; clear hi266_0 hl266_0; replace p266 := eq_true p266; replace q266 := eq_true q266; have p267 : 0 ≤ (x4_2 : Int) := of_decide_eq_true as_; have q267 : x4_2 < (l0_1.length : Int) := of_decide_eq_true as_; obtain ⟨ad267, e267, hx267_0⟩ := Kd.at_int HR0_1.out x4_2 p267 q267; cases e267; replace hx267_0 := (HB.out.cell (World.block_lt_of_cell? w _ hx267_0)).trans hx267_0; replace p267 := eq_true p267; replace q267 := eq_true q267; go_wp2
                repeat (go_quiet (fail); try go_wp2)
                go_meet
                case rel => exact ⟨_, (true), rf_, H', ⟨by have := HK1.out; have := HK2.out; first | omega | exact Nat.le_refl _⟩, ⟨bk_ BK262.out⟩, ⟨hg_⟩⟩
               ·rw [if_neg c23] at H
                have c23b0 : decide ((rd l0_1 x4_2) < 0) = false := decide_eq_false c23; clear c23; have H' := Aside0.mk H; clear H; have hcz25_0 : wr.cell? ⟨gb262, 0, none⟩ = some (.slice A0_0 l0_0.length c0_0) := (blk_cell BK262.out 0).trans rfl; have hcz25_1 : wr.cell? ⟨gb262, 1, none⟩ = some (.slice A0_1 l0_1.length c0_1) := (blk_cell BK262.out 1).trans rfl; have hfz25_0 := blk_frozen BK262.out 0; have hfz25_1 := blk_frozen BK262.out 1; have p264 : 0 ≤ (x4_2 : Int) := of_decide_eq_true as_; have q264 : x4_2 < (l0_0.length : Int) := of_decide_eq_true as_; obtain ⟨ad264, A264_0, c264_0, e264, hx264_0, hl264_0, hi264_0⟩ := at_L1 HR0_0.out x4_2 p264 q264; cases e264; replace hx264_0 := (HB.out.cell (World.block_lt_of_cell? w _ hx264_0)).trans hx264_0; have HR264_0 := Aside0.mk hi264_0; have HC264_0 := Aside0.mk hl264_0; clear hi264_0 hl264_0; replace p264 := eq_true p264; replace q264 := eq_true q264; have p265 : 0 ≤ (x4_2 : Int) := of_decide_eq_true as_; have q265 : x4_2 < (l0_0.length : Int) := of_decide_eq_true as_; obtain ⟨ad265, A265_0, c265_0, e265, hx265_0, hl265_0, hi265_0⟩ := at_L1 HR0_0.out x4_2 p265 q265
                obtain rfl : ad264 = ad265 := (by injection e265)
                replace hx265_0 := (HB.out.cell (World.block_lt_of_cell? w _ hx265_0)).trans hx265_0; have HR265_0 := Aside0.mk hi265_0; have HC265_0 := Aside0.mk hl265_0; clear hi265_0 hl265_0; replace p265 := eq_true p265; replace q265 := eq_true q265; have ea_ := Option.some.inj (hx264_0.symm.trans hx265_0); injection ea_ with ea_ en_ ec_; subst ea_; subst ec_; clear en_
                have p266 : 0 ≤ (0 : Int) := (by omega)
                have q266 : 0 < (l0_0.length : Int) := of_decide_eq_true as_; obtain ⟨ad266, A266_0, c266_0, e266, hx266_0, hl266_0, hi266_0⟩ := at_L1 HR0_0.out 0 p266 q266
                obtain rfl : ad264 = ad266 := (by injection e266)
                have qi266 : (0 < l0_0.length) = True := eq_true (by omega); (try rw [show ((0 : Int)).toNat = 0 from rfl] at hx266_0); (try rw [Addr.add_zero'] at hx266_0); replace hx266_0 := (HB.out.cell (World.block_lt_of_cell? w _ hx266_0)).trans hx266_0; have HR266_0 := Aside0.mk hi266_0; have HC266_0 := Aside0.mk hl266_0; clear hi266_0 hl266_0; replace p266 := eq_true p266; replace q266 := eq_true q266; have p267 : 0 ≤ (x4_2 : Int) := of_decide_eq_true as_; have q267 : x4_2 < (l0_1.length : Int) := of_decide_eq_true as_; obtain ⟨ad267, e267, hx267_0⟩ := Kd.at_int HR0_1.out x4_2 p267 q267; cases e267; replace hx267_0 := (HB.out.cell (World.block_lt_of_cell? w _ hx267_0)).trans hx267_0; replace p267 := eq_true p267; replace q267 := eq_true q267; have p268 : 0 ≤ (x4_2 : Int) := of_decide_eq_true as_; have q268 : x4_2 < (l0_1.length : Int) := of_decide_eq_true as_; obtain ⟨ad268, e268, hx268_0⟩ := Kd.at_int HR0_1.out x4_2 p268 q268
                obtain rfl : ad267 = ad268 := (by injection e268)
                replace hx268_0 := (HB.out.cell (World.block_lt_of_cell? w _ hx268_0)).trans hx268_0; replace p268 := eq_true p268; replace q268 := eq_true q268; go_wp2
                repeat (go_quiet (fail); try go_wp2)
                go_meet
                case rel => exact ⟨_, (decide ((rd l0_1 x4_2) ≥ 64)), rf_, H', ⟨by have := HK1.out; have := HK2.out; first | omega | exact Nat.le_refl _⟩, ⟨bk_ BK262.out⟩, ⟨hg_⟩⟩
              ·rw [if_neg c22] at H
               exact absurd H (by simp)
             ·rw [if_neg c21] at H
              have c21b0 : (((rd_L1 l0_0 x4_2).length : Int) == ((rd_L1 l0_0 0).length : Int)) = false := beq_eq_false_iff_ne.mpr c21; have c21b1 : (((rd_L1 l0_0 x4_2).length : Int) != ((rd_L1 l0_0 0).length : Int)) = true := bne_iff_ne.mpr c21
              have c21b2 : ((rd_L1 l0_0 x4_2).length == (rd_L1 l0_0 0).length) = false := by first | simpa using c21 | (simp at c21 ⊢; omega)
              have H' := Aside0.mk H; clear H; have hcz26_0 : wr.cell? ⟨gb262, 0, none⟩ = some (.slice A0_0 l0_0.length c0_0) := (blk_cell BK262.out 0).trans rfl; have hcz26_1 : wr.cell? ⟨gb262, 1, none⟩ = some (.slice A0_1 l0_1.length c0_1) := (blk_cell BK262.out 1).trans rfl; have hfz26_0 := blk_frozen BK262.out 0; have hfz26_1 := blk_frozen BK262.out 1; have p264 : 0 ≤ (x4_2 : Int) := of_decide_eq_true as_; have q264 : x4_2 < (l0_0.length : Int) := of_decide_eq_true as_; obtain ⟨ad264, A264_0, c264_0, e264, hx264_0, hl264_0, hi264_0⟩ := at_L1 HR0_0.out x4_2 p264 q264; cases e264; replace hx264_0 := (HB.out.cell (World.block_lt_of_cell? w _ hx264_0)).trans hx264_0; have HR264_0 := Aside0.mk hi264_0; have HC264_0 := Aside0.mk hl264_0; clear hi264_0 hl264_0; replace p264 := eq_true p264; replace q264 := eq_true q264; have p265 : 0 ≤ (x4_2 : Int) := of_decide_eq_true as_; have q265 : x4_2 < (l0_0.length : Int) := of_decide_eq_true as_; obtain ⟨ad265, A265_0, c265_0, e265, hx265_0, hl265_0, hi265_0⟩ := at_L1 HR0_0.out x4_2 p265 q265
              obtain rfl : ad264 = ad265 := (by injection e265)
              replace hx265_0 := (HB.out.cell (World.block_lt_of_cell? w _ hx265_0)).trans hx265_0; have HR265_0 := Aside0.mk hi265_0; have HC265_0 := Aside0.mk hl265_0; clear hi265_0 hl265_0; replace p265 := eq_true p265; replace q265 := eq_true q265; have ea_ := Option.some.inj (hx264_0.symm.trans hx265_0); injection ea_ with ea_ en_ ec_; subst ea_; subst ec_; clear en_
              have p266 : 0 ≤ (0 : Int) := (by omega)
              have q266 : 0 < (l0_0.length : Int) := of_decide_eq_true as_; obtain ⟨ad266, A266_0, c266_0, e266, hx266_0, hl266_0, hi266_0⟩ := at_L1 HR0_0.out 0 p266 q266
              obtain rfl : ad264 = ad266 := (by injection e266)
              have qi266 : (0 < l0_0.length) = True := eq_true (by omega); (try rw [show ((0 : Int)).toNat = 0 from rfl] at hx266_0); (try rw [Addr.add_zero'] at hx266_0); replace hx266_0 := (HB.out.cell (World.block_lt_of_cell? w _ hx266_0)).trans hx266_0; have HR266_0 := Aside0.mk hi266_0; have HC266_0 := Aside0.mk hl266_0; clear hi266_0 hl266_0; replace p266 := eq_true p266; replace q266 := eq_true q266; go_wp2
              repeat (go_quiet (fail); try go_wp2)
              go_meet
              case rel => exact ⟨_, (true), rf_, H', ⟨by have := HK1.out; have := HK2.out; first | omega | exact Nat.le_refl _⟩, ⟨bk_ BK262.out⟩, ⟨hg_⟩⟩
            ·rw [if_neg c20] at H
             exact absurd H (by simp)
          ·rw [if_neg c17] at H
           exact absurd H (by simp)
         case rest =>
          clear HC15; (try clear c1); (try clear c2); (try clear c2b0); (try clear c2b1); (try clear p2); (try clear q2); (try clear hx2); (try clear qi2); (try clear c5); (try clear p6); (try clear c7); (try clear c7b0); (try clear c8); (try clear c8b0); (try clear c9); (try clear c9b0); (try clear c9b1); (try clear c12); (try clear c12b0); (try clear c12b1); (try clear c12b2); (try clear c14); (try clear c14b0); (try clear c17); (try clear c17b0); (try clear c18); (try clear c18b0); (try clear c18b1); (try clear c20); (try clear c20b0); (try clear c20b1); (try clear c21); (try clear c21b0); (try clear c21b1); (try clear c21b2); (try clear c22); (try clear c22b0); (try clear c23); (try clear c23b0); (try clear c26); (try clear p26); (try clear q26); (try clear hx26); (try clear qi26); (try clear hcz10_0); (try clear hcz10_1); (try clear hcz11_0); (try clear hcz11_1); (try clear hcz13_0); (try clear hcz13_1); (try clear hcz16_0); (try clear hcz16_1); (try clear hcz19_0); (try clear hcz19_1); (try clear hcz24_0); (try clear hcz24_1); (try clear hcz25_0); (try clear hcz25_1); (try clear hcz26_0); (try clear hcz26_1); (try clear hcz4_0); (try clear hcz4_1); (try clear hcz6_0); (try clear hcz6_1); (try clear hfz10_0); (try clear hfz10_1); (try clear hfz11_0); (try clear hfz11_1); (try clear hfz13_0); (try clear hfz13_1); (try clear hfz16_0); (try clear hfz16_1); (try clear hfz19_0); (try clear hfz19_1); (try clear hfz24_0); (try clear hfz24_1); (try clear hfz25_0); (try clear hfz25_1); (try clear hfz26_0); (try clear hfz26_1); (try clear hfz4_0); (try clear hfz4_1); (try clear hfz6_0); (try clear hfz6_1); (try clear hx263_0); (try clear hx264_0); (try clear hx265_0); (try clear hx266_0); (try clear hx267_0); (try clear hx268_0); (try clear p2); (try clear p263); (try clear p264); (try clear p265); (try clear p266); (try clear p267); (try clear p268); (try clear p6); (try clear q2); (try clear q263); (try clear q264); (try clear q265); (try clear q266); (try clear q267); (try clear q268); obtain ⟨kq, x74_14, rfl, HA, HJ14, BK262, HB⟩ := hcut
          cases kq with
          | zero => exact absurd HA.out (by simp [signatoryref23_Check.j2])
          | succ kj14 =>
           have H := HA.out; clear HA; simp only [signatoryref23_Check.j2] at H
           by_cases c27 : x74_14 = true
           ·subst c27
            have H1 : (some 230) = some r := by rw [if_pos rfl] at H; exact H
            clear H; have H := H1; clear H1; obtain rfl := Option.some.inj H; go_wp2
            repeat (go_quiet (fail); try go_wp2)
            go_ret
            exact ⟨by first | rfl | (simp [errW_none, errW_some] <;> rfl) | (simp [*, errW_none, errW_some] <;> rfl), by repeat (first | (with_reducible first | exact HB.out | apply below_alloc | apply pw_below_drewN | apply below_drew1 | refine below_set ?_ GE_.out) | exact HB.out)⟩
           ·replace c27 := Bool.eq_false_iff.mpr c27
            subst c27
            have H1 : (signatoryref23_Check.l2 kj14 x4_2 0 l0_0 l0_1) = some r := by rw [if_neg (show ¬ (false = true) by decide)] at H; exact H
            clear H; have H := H1; clear H1; have H' := Aside0.mk H; clear H; go_wp2
            repeat (go_quiet (fail); try go_wp2)
            go_loopg [5] kj14 (fun kq v5 w' => ∃ (x5_4 : Int), v5 = .int .i64 x5_4 ∧ Aside0 (signatoryref23_Check.l2 kq x4_2 x5_4 l0_0 l0_1 = some r) ∧ Aside0 (kq ≤ kj14) ∧ Aside0 (w'.heap[gb262]? = some (.cells #[(.slice A0_0 l0_0.length c0_0), (.slice A0_1 l0_1.length c0_1)] 25 (0, 0))) ∧ Aside0 (Below w.heap.size w w'))
            case atStart => exact ⟨(0), rf_, H', ⟨Nat.le_refl _⟩, ⟨bk_ BK262.out⟩, ⟨hg_⟩⟩
            case round =>
             clear H'; (try clear c1); (try clear c2); (try clear c2b0); (try clear c2b1); (try clear p2); (try clear q2); (try clear hx2); (try clear qi2); (try clear c5); (try clear p6); (try clear c7); (try clear c7b0); (try clear c8); (try clear c8b0); (try clear c9); (try clear c9b0); (try clear c9b1); (try clear c12); (try clear c12b0); (try clear c12b1); (try clear c12b2); (try clear c14); (try clear c14b0); (try clear c17); (try clear c17b0); (try clear c18); (try clear c18b0); (try clear c18b1); (try clear c20); (try clear c20b0); (try clear c20b1); (try clear c21); (try clear c21b0); (try clear c21b1); (try clear c21b2); (try clear c22); (try clear c22b0); (try clear c23); (try clear c23b0); (try clear c26); (try clear p26); (try clear q26); (try clear hx26); (try clear qi26); (try clear c27); (try clear hcz10_0); (try clear hcz10_1); (try clear hcz11_0); (try clear hcz11_1); (try clear hcz13_0); (try clear hcz13_1); (try clear hcz16_0); (try clear hcz16_1); (try clear hcz19_0); (try clear hcz19_1); (try clear hcz24_0); (try clear hcz24_1); (try clear hcz25_0); (try clear hcz25_1); (try clear hcz26_0); (try clear hcz26_1); (try clear hcz4_0); (try clear hcz4_1); (try clear hcz6_0); (try clear hcz6_1); (try clear hfz10_0); (try clear hfz10_1); (try clear hfz11_0); (try clear hfz11_1); (try clear hfz13_0); (try clear hfz13_1); (try clear hfz16_0); (try clear hfz16_1); (try clear hfz19_0); (try clear hfz19_1); (try clear hfz24_0); (try clear hfz24_1); (try clear hfz25_0); (try clear hfz25_1); (try clear hfz26_0); (try clear hfz26_1); (try clear hfz4_0); (try clear hfz4_1); (try clear hfz6_0); (try clear hfz6_1); (try clear hx263_0); (try clear hx264_0); (try clear hx265_0); (try clear hx266_0); (try clear hx267_0); (try clear hx268_0); (try clear p2); (try clear p26); (try clear p263); (try clear p264); (try clear p265); (try clear p266); (try clear p267); (try clear p268); (try clear p6); (try clear q2); (try clear q26); (try clear q263); (try clear q264); (try clear q265); (try clear q266); (try clear q267); (try clear q268); obtain ⟨x5_4, rfl, HA, HK4, BK262, HB⟩ := hrel
             cases gk with
             | zero => exact absurd HA.out (by simp [signatoryref23_Check.l2])
             | succ k4 =>
              have H := HA.out; clear HA; simp only [signatoryref23_Check.l2] at H
              by_cases c28 : 0 ≤ x4_2
              ·rw [if_pos c28] at H
               have c28b0 : decide (0 ≤ x4_2) = true := decide_eq_true c28; clear c28
               by_cases c29 : x4_2 < (l0_0.length : Int)
               ·rw [if_pos c29] at H
                have c29b0 : decide (x4_2 < (l0_0.length : Int)) = true := decide_eq_true c29; clear c29
                by_cases c30 : x5_4 < ((rd_L1 l0_0 x4_2).length : Int)
                ·rw [if_pos c30] at H
                 have c30b0 : decide (x5_4 < ((rd_L1 l0_0 x4_2).length : Int)) = true := decide_eq_true c30; clear c30
                 by_cases c31 : 0 ≤ x5_4
                 ·rw [if_pos c31] at H
                  have c31b0 : decide (0 ≤ x5_4) = true := decide_eq_true c31; clear c31
                  by_cases c32 : (rd (rd_L1 l0_0 x4_2) x5_4) < 0
                  ·rw [if_pos c32] at H
                   have c32b0 : decide ((rd (rd_L1 l0_0 x4_2) x5_4) < 0) = true := decide_eq_true c32; clear c32; obtain rfl := Option.some.inj H; have hcz33_0 : wr.cell? ⟨gb262, 0, none⟩ = some (.slice A0_0 l0_0.length c0_0) := (blk_cell BK262.out 0).trans rfl; have hcz33_1 : wr.cell? ⟨gb262, 1, none⟩ = some (.slice A0_1 l0_1.length c0_1) := (blk_cell BK262.out 1).trans rfl; have hfz33_0 := blk_frozen BK262.out 0; have hfz33_1 := blk_frozen BK262.out 1; have p269 : 0 ≤ (x4_2 : Int) := of_decide_eq_true as_; have q269 : x4_2 < (l0_0.length : Int) := of_decide_eq_true as_; obtain ⟨ad269, A269_0, c269_0, e269, hx269_0, hl269_0, hi269_0⟩ := at_L1 HR0_0.out x4_2 p269 q269; cases e269; replace hx269_0 := (HB.out.cell (World.block_lt_of_cell? w _ hx269_0)).trans hx269_0; have HR269_0 := Aside0.mk hi269_0; have HC269_0 := Aside0.mk hl269_0; clear hi269_0 hl269_0; replace p269 := eq_true p269; replace q269 := eq_true q269; have p270 : 0 ≤ (x4_2 : Int) := of_decide_eq_true as_; have q270 : x4_2 < (l0_0.length : Int) := of_decide_eq_true as_; obtain ⟨ad270, A270_0, c270_0, e270, hx270_0, hl270_0, hi270_0⟩ := at_L1 HR0_0.out x4_2 p270 q270
                   obtain rfl : ad269 = ad270 := (by injection e270)
                   replace hx270_0 := (HB.out.cell (World.block_lt_of_cell? w _ hx270_0)).trans hx270_0; have HR270_0 := Aside0.mk hi270_0; have HC270_0 := Aside0.mk hl270_0; clear hi270_0 hl270_0; replace p270 := eq_true p270; replace q270 := eq_true q270; have ea_ := Option.some.inj (hx269_0.symm.trans hx270_0); injection ea_ with ea_ en_ ec_; subst ea_; subst ec_; clear en_; have p271 : 0 ≤ (x5_4 : Int) := of_decide_eq_true as_; have q271 : x5_4 < ((rd_L1 l0_0 x4_2).length : Int) := of_decide_eq_true as_; obtain ⟨ad271, e271, hx271_0⟩ := Kd.at_int HR270_0.out x5_4 p271 q271; cases e271; replace hx271_0 := (HB.out.cell (World.block_lt_of_cell? w _ hx271_0)).trans hx271_0; replace p271 := eq_true p271; replace q271 := eq_true q271; go_wp2
                   repeat (go_quiet (fail); try go_wp2)
                   go_ret
                   exact ⟨by first | rfl | (simp [errW_none, errW_some] <;> rfl) | (simp [*, errW_none, errW_some] <;> rfl), by repeat (first | (with_reducible first | exact HB.out | apply below_alloc | apply pw_below_drewN | apply below_drew1 | refine below_set ?_ GE_.out) | exact HB.out)⟩
                  ·rw [if_neg c32] at H
                   have c32b0 : decide ((rd (rd_L1 l0_0 x4_2) x5_4) < 0) = false := decide_eq_false c32; clear c32
                   by_cases c34 : (rd (rd_L1 l0_0 x4_2) x5_4) ≥ 1073741789
                   ·rw [if_pos c34] at H
                    have c34b0 : decide (1073741789 ≤ (rd (rd_L1 l0_0 x4_2) x5_4)) = true := decide_eq_true c34; clear c34; obtain rfl := Option.some.inj H; have hcz35_0 : wr.cell? ⟨gb262, 0, none⟩ = some (.slice A0_0 l0_0.length c0_0) := (blk_cell BK262.out 0).trans rfl; have hcz35_1 : wr.cell? ⟨gb262, 1, none⟩ = some (.slice A0_1 l0_1.length c0_1) := (blk_cell BK262.out 1).trans rfl; have hfz35_0 := blk_frozen BK262.out 0; have hfz35_1 := blk_frozen BK262.out 1; have p269 : 0 ≤ (x4_2 : Int) := of_decide_eq_true as_; have q269 : x4_2 < (l0_0.length : Int) := of_decide_eq_true as_; obtain ⟨ad269, A269_0, c269_0, e269, hx269_0, hl269_0, hi269_0⟩ := at_L1 HR0_0.out x4_2 p269 q269; cases e269; replace hx269_0 := (HB.out.cell (World.block_lt_of_cell? w _ hx269_0)).trans hx269_0; have HR269_0 := Aside0.mk hi269_0; have HC269_0 := Aside0.mk hl269_0; clear hi269_0 hl269_0; replace p269 := eq_true p269; replace q269 := eq_true q269; have p270 : 0 ≤ (x4_2 : Int) := of_decide_eq_true as_; have q270 : x4_2 < (l0_0.length : Int) := of_decide_eq_true as_; obtain ⟨ad270, A270_0, c270_0, e270, hx270_0, hl270_0, hi270_0⟩ := at_L1 HR0_0.out x4_2 p270 q270
                    obtain rfl : ad269 = ad270 := (by injection e270)
                    replace hx270_0 := (HB.out.cell (World.block_lt_of_cell? w _ hx270_0)).trans hx270_0; have HR270_0 := Aside0.mk hi270_0; have HC270_0 := Aside0.mk hl270_0; clear hi270_0 hl270_0; replace p270 := eq_true p270; replace q270 := eq_true q270; have ea_ := Option.some.inj (hx269_0.symm.trans hx270_0); injection ea_ with ea_ en_ ec_; subst ea_; subst ec_; clear en_; have p271 : 0 ≤ (x5_4 : Int) := of_decide_eq_true as_; have q271 : x5_4 < ((rd_L1 l0_0 x4_2).length : Int) := of_decide_eq_true as_; obtain ⟨ad271, e271, hx271_0⟩ := Kd.at_int HR270_0.out x5_4 p271 q271; cases e271; replace hx271_0 := (HB.out.cell (World.block_lt_of_cell? w _ hx271_0)).trans hx271_0; replace p271 := eq_true p271; replace q271 := eq_true q271; have p272 : 0 ≤ (x4_2 : Int) := of_decide_eq_true as_; have q272 : x4_2 < (l0_0.length : Int) := of_decide_eq_true as_; obtain ⟨ad272, A272_0, c272_0, e272, hx272_0, hl272_0, hi272_0⟩ := at_L1 HR0_0.out x4_2 p272 q272
                    obtain rfl : ad269 = ad272 := (by injection e272)
                    replace hx272_0 := (HB.out.cell (World.block_lt_of_cell? w _ hx272_0)).trans hx272_0; have HR272_0 := Aside0.mk hi272_0; have HC272_0 := Aside0.mk hl272_0; clear hi272_0 hl272_0; replace p272 := eq_true p272; replace q272 := eq_true q272; have ea_ := Option.some.inj (hx269_0.symm.trans hx272_0); injection ea_ with ea_ en_ ec_; subst ea_; subst ec_; clear en_; have p273 : 0 ≤ (x5_4 : Int) := of_decide_eq_true as_; have q273 : x5_4 < ((rd_L1 l0_0 x4_2).length : Int) := of_decide_eq_true as_; obtain ⟨ad273, e273, hx273_0⟩ := Kd.at_int HR272_0.out x5_4 p273 q273; cases e273; replace hx273_0 := (HB.out.cell (World.block_lt_of_cell? w _ hx273_0)).trans hx273_0; replace p273 := eq_true p273; replace q273 := eq_true q273; go_wp2
                    repeat (go_quiet (fail); try go_wp2)
                    go_ret
                    exact ⟨by first | rfl | (simp [errW_none, errW_some] <;> rfl) | (simp [*, errW_none, errW_some] <;> rfl), by repeat (first | (with_reducible first | exact HB.out | apply below_alloc | apply pw_below_drewN | apply below_drew1 | refine below_set ?_ GE_.out) | exact HB.out)⟩
                   ·rw [if_neg c34] at H
                    have c34b0 : decide (1073741789 ≤ (rd (rd_L1 l0_0 x4_2) x5_4)) = false := decide_eq_false c34; clear c34; have H' := Aside0.mk H; clear H; have hcz36_0 : wr.cell? ⟨gb262, 0, none⟩ = some (.slice A0_0 l0_0.length c0_0) := (blk_cell BK262.out 0).trans rfl; have hcz36_1 : wr.cell? ⟨gb262, 1, none⟩ = some (.slice A0_1 l0_1.length c0_1) := (blk_cell BK262.out 1).trans rfl; have hfz36_0 := blk_frozen BK262.out 0; have hfz36_1 := blk_frozen BK262.out 1; have p269 : 0 ≤ (x4_2 : Int) := of_decide_eq_true as_; have q269 : x4_2 < (l0_0.length : Int) := of_decide_eq_true as_; obtain ⟨ad269, A269_0, c269_0, e269, hx269_0, hl269_0, hi269_0⟩ := at_L1 HR0_0.out x4_2 p269 q269; cases e269; replace hx269_0 := (HB.out.cell (World.block_lt_of_cell? w _ hx269_0)).trans hx269_0; have HR269_0 := Aside0.mk hi269_0; have HC269_0 := Aside0.mk hl269_0; clear hi269_0 hl269_0; replace p269 := eq_true p269; replace q269 := eq_true q269; have p270 : 0 ≤ (x4_2 : Int) := of_decide_eq_true as_; have q270 : x4_2 < (l0_0.length : Int) := of_decide_eq_true as_; obtain ⟨ad270, A270_0, c270_0, e270, hx270_0, hl270_0, hi270_0⟩ := at_L1 HR0_0.out x4_2 p270 q270
                    obtain rfl : ad269 = ad270 := (by injection e270)
                    replace hx270_0 := (HB.out.cell (World.block_lt_of_cell? w _ hx270_0)).trans hx270_0; have HR270_0 := Aside0.mk hi270_0; have HC270_0 := Aside0.mk hl270_0; clear hi270_0 hl270_0; replace p270 := eq_true p270; replace q270 := eq_true q270; have ea_ := Option.some.inj (hx269_0.symm.trans hx270_0); injection ea_ with ea_ en_ ec_; subst ea_; subst ec_; clear en_; have p271 : 0 ≤ (x5_4 : Int) := of_decide_eq_true as_; have q271 : x5_4 < ((rd_L1 l0_0 x4_2).length : Int) := of_decide_eq_true as_; obtain ⟨ad271, e271, hx271_0⟩ := Kd.at_int HR270_0.out x5_4 p271 q271; cases e271; replace hx271_0 := (HB.out.cell (World.block_lt_of_cell? w _ hx271_0)).trans hx271_0; replace p271 := eq_true p271; replace q271 := eq_true q271; have p272 : 0 ≤ (x4_2 : Int) := of_decide_eq_true as_; have q272 : x4_2 < (l0_0.length : Int) := of_decide_eq_true as_; obtain ⟨ad272, A272_0, c272_0, e272, hx272_0, hl272_0, hi272_0⟩ := at_L1 HR0_0.out x4_2 p272 q272
                    obtain rfl : ad269 = ad272 := (by injection e272)
                    replace hx272_0 := (HB.out.cell (World.block_lt_of_cell? w _ hx272_0)).trans hx272_0; have HR272_0 := Aside0.mk hi272_0; have HC272_0 := Aside0.mk hl272_0; clear hi272_0 hl272_0; replace p272 := eq_true p272; replace q272 := eq_true q272; have ea_ := Option.some.inj (hx269_0.symm.trans hx272_0); injection ea_ with ea_ en_ ec_; subst ea_; subst ec_; clear en_; have p273 : 0 ≤ (x5_4 : Int) := of_decide_eq_true as_; have q273 : x5_4 < ((rd_L1 l0_0 x4_2).length : Int) := of_decide_eq_true as_; obtain ⟨ad273, e273, hx273_0⟩ := Kd.at_int HR272_0.out x5_4 p273 q273; cases e273; replace hx273_0 := (HB.out.cell (World.block_lt_of_cell? w _ hx273_0)).trans hx273_0; replace p273 := eq_true p273; replace q273 := eq_true q273; go_wp2
                    repeat (go_quiet (fail); try go_wp2)
                    go_roundg k4
                    case measure => have := HK1.out; have := HK2.out; have := HJ14.out; have := HK4.out; omega
                    case rel => exact ⟨(wrap64 (x5_4 + 1)), rf_, H', ⟨by have := HK1.out; have := HK2.out; have := HJ14.out; have := HK4.out; omega⟩, ⟨bk_ BK262.out⟩, ⟨hg_⟩⟩
                 ·rw [if_neg c31] at H
                  exact absurd H (by simp)
                ·rw [if_neg c30] at H
                 have c30b0 : decide (x5_4 < ((rd_L1 l0_0 x4_2).length : Int)) = false := decide_eq_false c30; clear c30; have H' := Aside0.mk H; clear H; have hcz37_0 : wr.cell? ⟨gb262, 0, none⟩ = some (.slice A0_0 l0_0.length c0_0) := (blk_cell BK262.out 0).trans rfl; have hcz37_1 : wr.cell? ⟨gb262, 1, none⟩ = some (.slice A0_1 l0_1.length c0_1) := (blk_cell BK262.out 1).trans rfl; have hfz37_0 := blk_frozen BK262.out 0; have hfz37_1 := blk_frozen BK262.out 1; have p269 : 0 ≤ (x4_2 : Int) := of_decide_eq_true as_; have q269 : x4_2 < (l0_0.length : Int) := of_decide_eq_true as_; obtain ⟨ad269, A269_0, c269_0, e269, hx269_0, hl269_0, hi269_0⟩ := at_L1 HR0_0.out x4_2 p269 q269; cases e269; replace hx269_0 := (HB.out.cell (World.block_lt_of_cell? w _ hx269_0)).trans hx269_0; have HR269_0 := Aside0.mk hi269_0; have HC269_0 := Aside0.mk hl269_0; clear hi269_0 hl269_0; replace p269 := eq_true p269; replace q269 := eq_true q269; go_wp2
                 repeat (go_quiet (fail); try go_wp2)
                 go_roundg k4
                 case measure => have := HK1.out; have := HK2.out; have := HJ14.out; have := HK4.out; omega
                 case rel => exact ⟨(wrap64 (x4_2 + 1)), rf_, H', ⟨by have := HK1.out; have := HK2.out; have := HJ14.out; have := HK4.out; omega⟩, ⟨bk_ BK262.out⟩, ⟨hg_⟩⟩
               ·rw [if_neg c29] at H
                exact absurd H (by simp)
              ·rw [if_neg c28] at H
               exact absurd H (by simp)
        ·rw [if_neg c14] at H
         have c14b0 : decide (x4_2 < (l0_0.length : Int)) = false := decide_eq_false c14; clear c14; obtain rfl := Option.some.inj H; have hcz38_0 : wr.cell? ⟨gb262, 0, none⟩ = some (.slice A0_0 l0_0.length c0_0) := (blk_cell BK262.out 0).trans rfl; have hcz38_1 : wr.cell? ⟨gb262, 1, none⟩ = some (.slice A0_1 l0_1.length c0_1) := (blk_cell BK262.out 1).trans rfl; have hfz38_0 := blk_frozen BK262.out 0; have hfz38_1 := blk_frozen BK262.out 1; go_wp2
         repeat (go_quiet (fail); try go_wp2)
         go_ret
         exact ⟨by first | rfl | (simp [errW_none, errW_some] <;> rfl) | (simp [*, errW_none, errW_some] <;> rfl), by repeat (first | (with_reducible first | exact HB.out | apply below_alloc | apply pw_below_drewN | apply below_drew1 | refine below_set ?_ GE_.out) | exact HB.out)⟩
     ·rw [if_neg c12] at H
      have c12b0 : ((l0_0.length : Int) == (l0_1.length : Int)) = false := beq_eq_false_iff_ne.mpr c12; have c12b1 : ((l0_0.length : Int) != (l0_1.length : Int)) = true := bne_iff_ne.mpr c12
      have c12b2 : (l0_0.length == l0_1.length) = false := by first | simpa using c12 | (simp at c12 ⊢; omega)
      obtain rfl := Option.some.inj H; have hcz39_0 : wr.cell? ⟨gb262, 0, none⟩ = some (.slice A0_0 l0_0.length c0_0) := (blk_cell BK262.out 0).trans rfl; have hcz39_1 : wr.cell? ⟨gb262, 1, none⟩ = some (.slice A0_1 l0_1.length c0_1) := (blk_cell BK262.out 1).trans rfl; have hfz39_0 := blk_frozen BK262.out 0; have hfz39_1 := blk_frozen BK262.out 1; go_wp2
      repeat (go_quiet (fail); try go_wp2)
      go_ret
      exact ⟨by first | rfl | (simp [errW_none, errW_some] <;> rfl) | (simp [*, errW_none, errW_some] <;> rfl), by repeat (first | (with_reducible first | exact HB.out | apply below_alloc | apply pw_below_drewN | apply below_drew1 | refine below_set ?_ GE_.out) | exact HB.out)⟩
def signatoryref34_Columns.f (l0_0 : List (List Int)) (l0_1 : List Int) : Option (Int) := if (l0_0.length : Int) = 0 then (some 1) else (if 0 < (l0_0.length : Int) then (some ((rd_L1 l0_0 0).length : Int)) else (none))
set_option maxHeartbeats 8000000 in
set_option maxRecDepth 100000 in
theorem signatoryref34_Columns.calls (A0_0 : Option Addr) (c0_0 : Nat) (l0_0 : List (List Int)) (A0_1 : Option Addr) (c0_1 : Nat) (l0_1 : List Int) (r : Int) (w : World) (hr0_0 : Kd.C (Kd.slice 3 (Kd.int .i64)) w A0_0 l0_0.length l0_0) (hc0_0 : l0_0.length ≤ c0_0) (hr0_1 : Kd.C (Kd.int .i64) w A0_1 l0_1.length l0_1) (hc0_1 : l0_1.length ≤ c0_1) (h : signatoryref34_Columns.f l0_0 l0_1 = some r) :
  Calls Try.prog 35 #[.agg #[.slice A0_0 l0_0.length c0_0, .slice A0_1 l0_1.length c0_1]] w fun e w' => e = .returned (.int .i64 r) ∧ Below w.heap.size w w' := by
 have hu25 := Try.underlying25; have HR0_0 := Aside0.mk hr0_0; have HC0_0 := Aside0.mk hc0_0; clear hr0_0 hc0_0; have HR0_1 := Aside0.mk hr0_1; have HC0_1 := Aside0.mk hc0_1; clear hr0_1 hc0_1; have HB := Aside0.mk (Below.refl w.heap.size w); have H : (if (l0_0.length : Int) = 0 then (some 1) else (if 0 < (l0_0.length : Int) then (some ((rd_L1 l0_0 0).length : Int)) else (none))) = some r := h; clear h
 by_cases c2 : (l0_0.length : Int) = 0
 ·rw [if_pos c2] at H
  have c2b0 : ((l0_0.length : Int) == 0) = true := beq_iff_eq.mpr c2; have c2b1 : ((l0_0.length : Int) != 0) = false := bne_eq_false_iff_eq.mpr c2; clear c2; obtain rfl := Option.some.inj H
  go_enter Try.func35, Try.ntmps35
  go_wp2_with (first | ((with_reducible refine gate_dst (N := 1) rfl ?_); refine box_event ?hg (N := 1) ?hd (cs := #[.slice A0_0 l0_0.length c0_0, .slice A0_1 l0_1.length c0_1]) (t := 25) ?hr ?_; (case hd => rfl); (case hg => rfl); (case hr => first | (go_simp; done) | (go_simp; rfl)); intro gb296 hg w3 hbox hb; have n0_ := Aside0.mk (below_step hb_ hb); have n1_ := Aside0.mk (hbox); have n2_ := Aside0.mk ((by rw [hg]; exact (below_size hb_) : w.heap.size ≤ gb296)); have n3_ := Aside0.mk ((by rw [hg]; exact (below_size hb_) : w.heap.size ≤ gb296)); clear HB; have HB := n0_; have BK296 := n1_; have GW296 := n2_; have GE_ := n3_; clear n0_ n1_ n2_ n3_; clear hb hbox hg; have hcz4_0 : w3.cell? ⟨gb296, 0, none⟩ = some (.slice A0_0 l0_0.length c0_0) := (blk_cell BK296.out 0).trans rfl; have hcz4_1 : w3.cell? ⟨gb296, 1, none⟩ = some (.slice A0_1 l0_1.length c0_1) := (blk_cell BK296.out 1).trans rfl; have hfz4_0 := blk_frozen BK296.out 0; have hfz4_1 := blk_frozen BK296.out 1))
  go_ret
  exact ⟨by first | rfl | (simp [errW_none, errW_some] <;> rfl) | (simp [*, errW_none, errW_some] <;> rfl), by repeat (first | (with_reducible first | exact HB.out | apply below_alloc | apply pw_below_drewN | apply below_drew1 | refine below_set ?_ GE_.out) | exact HB.out)⟩
 ·rw [if_neg c2] at H
  have c2b0 : ((l0_0.length : Int) == 0) = false := beq_eq_false_iff_ne.mpr c2; have c2b1 : ((l0_0.length : Int) != 0) = true := bne_iff_ne.mpr c2
  have c2b2 : ¬ (l0_0 = []) := fun h_ => c2 (by rw [h_]; rfl)
  by_cases c5 : 0 < (l0_0.length : Int)
  ·rw [if_pos c5] at H
   have c5b0 : decide (0 < (l0_0.length : Int)) = true := decide_eq_true c5; have c5b1 : decide (0 < l0_0.length) = true := decide_eq_true (by omega); clear c5; obtain rfl := Option.some.inj H
   go_enter Try.func35, Try.ntmps35
   go_wp2_with (first | ((with_reducible refine gate_dst (N := 1) rfl ?_); refine box_event ?hg (N := 1) ?hd (cs := #[.slice A0_0 l0_0.length c0_0, .slice A0_1 l0_1.length c0_1]) (t := 25) ?hr ?_; (case hd => rfl); (case hg => rfl); (case hr => first | (go_simp; done) | (go_simp; rfl)); intro gb296 hg w6 hbox hb; have n0_ := Aside0.mk (below_step hb_ hb); have n1_ := Aside0.mk (hbox); have n2_ := Aside0.mk ((by rw [hg]; exact (below_size hb_) : w.heap.size ≤ gb296)); have n3_ := Aside0.mk ((by rw [hg]; exact (below_size hb_) : w.heap.size ≤ gb296)); clear HB; have HB := n0_; have BK296 := n1_; have GW296 := n2_; have GE_ := n3_; clear n0_ n1_ n2_ n3_; clear hb hbox hg; have hcz7_0 : w6.cell? ⟨gb296, 0, none⟩ = some (.slice A0_0 l0_0.length c0_0) := (blk_cell BK296.out 0).trans rfl; have hcz7_1 : w6.cell? ⟨gb296, 1, none⟩ = some (.slice A0_1 l0_1.length c0_1) := (blk_cell BK296.out 1).trans rfl; have hfz7_0 := blk_frozen BK296.out 0; have hfz7_1 := blk_frozen BK296.out 1; have p297 : 0 ≤ (0 : Int) := (by omega); have q297 : 0 < (l0_0.length : Int) := of_decide_eq_true as_; obtain ⟨ad297, A297_0, c297_0, e297, hx297_0, hl297_0, hi297_0⟩ := at_L1 HR0_0.out 0 p297 q297; cases e297; have qi297 : (0 < l0_0.length) = True := eq_true (by omega); (try rw [show ((0 : Int)).toNat = 0 from rfl] at hx297_0); (try rw [Addr.add_zero'] at hx297_0); replace hx297_0 := (HB.out.cell (World.block_lt_of_cell? w _ hx297_0)).trans hx297_0; have HR297_0 := Aside0.mk hi297_0; have HC297_0 := Aside0.mk hl297_0; clear hi297_0 hl297_0; replace p297 := eq_true p297; replace q297 := eq_true q297))
   go_ret
   exact ⟨by first | rfl | (simp [errW_none, errW_some] <;> rfl) | (simp [*, errW_none, errW_some] <;> rfl), by repeat (first | (with_reducible first | exact HB.out | apply below_alloc | apply pw_below_drewN | apply below_drew1 | refine below_set ?_ GE_.out) | exact HB.out)⟩
  ·rw [if_neg c5] at H
   exact absurd H (by simp)
def signatoryref34_SameInts.l0 : Nat → List Int → List Int → Int → Option (Bool)
 | 0, _, _, _ => none
 | k + 1, x0, x1, x5 => if x5 < (x0.length : Int) then (if 0 ≤ x5 then (if x5 < (x1.length : Int) then (if (rd x0 x5) = (rd x1 x5) then (signatoryref34_SameInts.l0 k x0 x1 (wrap64 (x5 + 1))) else (some false)) else (none)) else (none)) else (some true)
def signatoryref34_SameInts.f (k : Nat) (l0 : List Int) (l1 : List Int) : Option (Bool) := if (l0.length : Int) = (l1.length : Int) then (signatoryref34_SameInts.l0 k l0 l1 0) else (some false)
set_option maxHeartbeats 8000000 in
set_option maxRecDepth 100000 in
theorem signatoryref34_SameInts.calls (k : Nat) (A0 : Option Addr) (c0 : Nat) (l0 : List Int) (A1 : Option Addr) (c1 : Nat) (l1 : List Int) (r : Bool) (w : World) (hr0 : Kd.C (Kd.int .i64) w A0 l0.length l0) (hc0 : l0.length ≤ c0) (hr1 : Kd.C (Kd.int .i64) w A1 l1.length l1) (hc1 : l1.length ≤ c1) (h : signatoryref34_SameInts.f k l0 l1 = some r) :
  Calls Try.prog 27 #[.slice A0 l0.length c0, .slice A1 l1.length c1] w fun e w' => e = .returned (.bool r) ∧ Drawn0 w w' := by
 have HR0 := Aside0.mk hr0; have HC0 := Aside0.mk hc0; clear hr0 hc0; have HR1 := Aside0.mk hr1; have HC1 := Aside0.mk hc1; clear hr1 hc1; have H : (if (l0.length : Int) = (l1.length : Int) then (signatoryref34_SameInts.l0 k l0 l1 0) else (some false)) = some r := h; clear h
 by_cases c3 : (l0.length : Int) = (l1.length : Int)
 ·rw [if_pos c3] at H
  have c3b0 : ((l0.length : Int) == (l1.length : Int)) = true := beq_iff_eq.mpr c3; have c3b1 : ((l0.length : Int) != (l1.length : Int)) = false := bne_eq_false_iff_eq.mpr c3
  have c3b2 : (l0.length == l1.length) = true := by first | simpa using c3 | (simp at c3 ⊢; omega)
  clear c3; have H' := Aside0.mk H; clear H
  go_enter Try.func27, Try.ntmps27
  go_wp2
  repeat (go_quiet (fail); try go_wp2)
  go_loopg [5] k (fun kq v5 w' => ∃ (x5_1 : Int), v5 = .int .i64 x5_1 ∧ Aside0 (signatoryref34_SameInts.l0 kq l0 l1 x5_1 = some r) ∧ Aside0 (kq ≤ k) ∧ Drawn0 w w')
  case atStart => exact ⟨(0), rf_, H', ⟨Nat.le_refl _⟩, dr_⟩
  case round =>
   clear H'; (try clear c1); (try clear c2); (try clear p2); (try clear c3); (try clear c3b0); (try clear c3b1); (try clear c3b2); obtain ⟨x5_1, rfl, HA, HK1, ⟨m1, rfl⟩⟩ := hrel
   cases gk with
   | zero => exact absurd HA.out (by simp [signatoryref34_SameInts.l0])
   | succ k1 =>
    have H := HA.out; clear HA; simp only [signatoryref34_SameInts.l0] at H
    by_cases c4 : x5_1 < (l0.length : Int)
    ·rw [if_pos c4] at H
     have c4b0 : decide (x5_1 < (l0.length : Int)) = true := decide_eq_true c4; clear c4
     by_cases c5 : 0 ≤ x5_1
     ·rw [if_pos c5] at H
      have c5b0 : decide (0 ≤ x5_1) = true := decide_eq_true c5; clear c5
      by_cases c6 : x5_1 < (l1.length : Int)
      ·rw [if_pos c6] at H
       have c6b0 : decide (x5_1 < (l1.length : Int)) = true := decide_eq_true c6; clear c6
       by_cases c7 : (rd l0 x5_1) = (rd l1 x5_1)
       ·rw [if_pos c7] at H
        have c7b0 : ((rd l0 x5_1) == (rd l1 x5_1)) = true := beq_iff_eq.mpr c7; have c7b1 : ((rd l0 x5_1) != (rd l1 x5_1)) = false := bne_eq_false_iff_eq.mpr c7; clear c7; have H' := Aside0.mk H; clear H; have p394 : 0 ≤ (x5_1 : Int) := of_decide_eq_true as_; have q394 : x5_1 < (l0.length : Int) := of_decide_eq_true as_; obtain ⟨ad394, e394, hx394_0⟩ := Kd.at_int HR0.out x5_1 p394 q394; cases e394; replace p394 := eq_true p394; replace q394 := eq_true q394; have p395 : 0 ≤ (x5_1 : Int) := of_decide_eq_true as_; have q395 : x5_1 < (l1.length : Int) := of_decide_eq_true as_; obtain ⟨ad395, e395, hx395_0⟩ := Kd.at_int HR1.out x5_1 p395 q395; cases e395; replace p395 := eq_true p395; replace q395 := eq_true q395; go_wp2
        repeat (go_quiet (fail); try go_wp2)
        go_roundg k1
        case measure => have := HK1.out; omega
        case rel => exact ⟨(wrap64 (x5_1 + 1)), rf_, H', ⟨by have := HK1.out; omega⟩, dr_⟩
       ·rw [if_neg c7] at H
        have c7b0 : ((rd l0 x5_1) == (rd l1 x5_1)) = false := beq_eq_false_iff_ne.mpr c7; have c7b1 : ((rd l0 x5_1) != (rd l1 x5_1)) = true := bne_iff_ne.mpr c7; obtain rfl := Option.some.inj H; have p394 : 0 ≤ (x5_1 : Int) := of_decide_eq_true as_; have q394 : x5_1 < (l0.length : Int) := of_decide_eq_true as_; obtain ⟨ad394, e394, hx394_0⟩ := Kd.at_int HR0.out x5_1 p394 q394; cases e394; replace p394 := eq_true p394; replace q394 := eq_true q394; have p395 : 0 ≤ (x5_1 : Int) := of_decide_eq_true as_; have q395 : x5_1 < (l1.length : Int) := of_decide_eq_true as_; obtain ⟨ad395, e395, hx395_0⟩ := Kd.at_int HR1.out x5_1 p395 q395; cases e395; replace p395 := eq_true p395; replace q395 := eq_true q395; go_wp2
        repeat (go_quiet (fail); try go_wp2)
        go_ret
        exact ⟨rf_, dr_⟩
      ·rw [if_neg c6] at H
       exact absurd H (by simp)
     ·rw [if_neg c5] at H
      exact absurd H (by simp)
    ·rw [if_neg c4] at H
     have c4b0 : decide (x5_1 < (l0.length : Int)) = false := decide_eq_false c4; clear c4; obtain rfl := Option.some.inj H; go_wp2
     repeat (go_quiet (fail); try go_wp2)
     go_ret
     exact ⟨rf_, dr_⟩
 ·rw [if_neg c3] at H
  have c3b0 : ((l0.length : Int) == (l1.length : Int)) = false := beq_eq_false_iff_ne.mpr c3; have c3b1 : ((l0.length : Int) != (l1.length : Int)) = true := bne_iff_ne.mpr c3
  have c3b2 : (l0.length == l1.length) = false := by first | simpa using c3 | (simp at c3 ⊢; omega)
  obtain rfl := Option.some.inj H
  go_enter Try.func27, Try.ntmps27
  go_wp2
  repeat (go_quiet (fail); try go_wp2)
  go_ret
  exact ⟨rf_, dr_⟩
def signatoryref34_Same.l0 : Nat → List (S38) → List (S38) → Int → Option (Bool)
 | 0, _, _, _ => none
 | k + 1, x0, x1, x5 => if x5 < (x0.length : Int) then (if 0 ≤ x5 then (if x5 < (x1.length : Int) then (if (!(((rd_T38 x0 x5).f0) == ((rd_T38 x1 x5).f0)) || (!(((rd_T38 x0 x5).f1) == ((rd_T38 x1 x5).f1)))) = true then (some false) else (signatoryref34_Same.l0 k x0 x1 (wrap64 (x5 + 1)))) else (none)) else (none)) else (some true)
def signatoryref34_Same.f (k : Nat) (l0 : List (S38)) (l1 : List (S38)) : Option (Bool) := if (l0.length : Int) = (l1.length : Int) then (signatoryref34_Same.l0 k l0 l1 0) else (some false)
set_option maxHeartbeats 8000000 in
set_option maxRecDepth 100000 in
theorem signatoryref34_Same.calls (k : Nat) (A0 : Option Addr) (c0 : Nat) (l0 : List (S38)) (A1 : Option Addr) (c1 : Nat) (l1 : List (S38)) (r : Bool) (w : World) (hr0 : Kd.C k38 w A0 l0.length l0) (hc0 : l0.length ≤ c0) (hr1 : Kd.C k38 w A1 l1.length l1) (hc1 : l1.length ≤ c1) (h : signatoryref34_Same.f k l0 l1 = some r) :
  Calls Try.prog 26 #[.slice A0 l0.length c0, .slice A1 l1.length c1] w fun e w' => e = .returned (.bool r) ∧ Drawn0 w w' := by
 have hu38 := Try.underlying38; have HR0 := Aside0.mk hr0; have HC0 := Aside0.mk hc0; clear hr0 hc0; have HR1 := Aside0.mk hr1; have HC1 := Aside0.mk hc1; clear hr1 hc1; have H : (if (l0.length : Int) = (l1.length : Int) then (signatoryref34_Same.l0 k l0 l1 0) else (some false)) = some r := h; clear h
 by_cases c3 : (l0.length : Int) = (l1.length : Int)
 ·rw [if_pos c3] at H
  have c3b0 : ((l0.length : Int) == (l1.length : Int)) = true := beq_iff_eq.mpr c3; have c3b1 : ((l0.length : Int) != (l1.length : Int)) = false := bne_eq_false_iff_eq.mpr c3
  have c3b2 : (l0.length == l1.length) = true := by first | simpa using c3 | (simp at c3 ⊢; omega)
  clear c3; have H' := Aside0.mk H; clear H
  go_enter Try.func26, Try.ntmps26
  go_wp2
  repeat (go_quiet (fail); try go_wp2)
  go_loopg [5] k (fun kq v5 w' => ∃ (x5_1 : Int), v5 = .int .i64 x5_1 ∧ Aside0 (signatoryref34_Same.l0 kq l0 l1 x5_1 = some r) ∧ Aside0 (kq ≤ k) ∧ Drawn0 w w')
  case atStart => exact ⟨(0), rf_, H', ⟨Nat.le_refl _⟩, dr_⟩
  case round =>
   clear H'; (try clear c1); (try clear c2); (try clear p2); (try clear c3); (try clear c3b0); (try clear c3b1); (try clear c3b2); obtain ⟨x5_1, rfl, HA, HK1, ⟨m1, rfl⟩⟩ := hrel
   cases gk with
   | zero => exact absurd HA.out (by simp [signatoryref34_Same.l0])
   | succ k1 =>
    have H := HA.out; clear HA; simp only [signatoryref34_Same.l0] at H
    by_cases c4 : x5_1 < (l0.length : Int)
    ·rw [if_pos c4] at H
     have c4b0 : decide (x5_1 < (l0.length : Int)) = true := decide_eq_true c4; clear c4
     by_cases c5 : 0 ≤ x5_1
     ·rw [if_pos c5] at H
      have c5b0 : decide (0 ≤ x5_1) = true := decide_eq_true c5; clear c5
      by_cases c6 : x5_1 < (l1.length : Int)
      ·rw [if_pos c6] at H
       have c6b0 : decide (x5_1 < (l1.length : Int)) = true := decide_eq_true c6; clear c6
       by_cases c7 : (!(((rd_T38 l0 x5_1).f0) == ((rd_T38 l1 x5_1).f0)) || (!(((rd_T38 l0 x5_1).f1) == ((rd_T38 l1 x5_1).f1)))) = true
       ·rw [if_pos c7] at H
        have c7b0 : (!(((rd_T38 l0 x5_1).f0) == ((rd_T38 l1 x5_1).f0)) || (!(((rd_T38 l0 x5_1).f1) == ((rd_T38 l1 x5_1).f1)))) = true := c7; clear c7; obtain rfl := Option.some.inj H; have p396 : 0 ≤ (x5_1 : Int) := of_decide_eq_true as_; have q396 : x5_1 < (l0.length : Int) := of_decide_eq_true as_; obtain ⟨ad396, e396, hx396_0, hx396_1⟩ := at_T38 HR0.out x5_1 p396 q396; cases e396; replace p396 := eq_true p396; replace q396 := eq_true q396; have p397 : 0 ≤ (x5_1 : Int) := of_decide_eq_true as_; have q397 : x5_1 < (l1.length : Int) := of_decide_eq_true as_; obtain ⟨ad397, e397, hx397_0, hx397_1⟩ := at_T38 HR1.out x5_1 p397 q397; cases e397; replace p397 := eq_true p397; replace q397 := eq_true q397; go_wp2
        repeat (go_quiet (fail); try go_wp2)
        go_ret
        exact ⟨rf_, dr_⟩
       ·rw [if_neg c7] at H
        have c7b0 : (!(((rd_T38 l0 x5_1).f0) == ((rd_T38 l1 x5_1).f0)) || (!(((rd_T38 l0 x5_1).f1) == ((rd_T38 l1 x5_1).f1)))) = false := by simpa using c7
        clear c7; have H' := Aside0.mk H; clear H; have p396 : 0 ≤ (x5_1 : Int) := of_decide_eq_true as_; have q396 : x5_1 < (l0.length : Int) := of_decide_eq_true as_; obtain ⟨ad396, e396, hx396_0, hx396_1⟩ := at_T38 HR0.out x5_1 p396 q396; cases e396; replace p396 := eq_true p396; replace q396 := eq_true q396; have p397 : 0 ≤ (x5_1 : Int) := of_decide_eq_true as_; have q397 : x5_1 < (l1.length : Int) := of_decide_eq_true as_; obtain ⟨ad397, e397, hx397_0, hx397_1⟩ := at_T38 HR1.out x5_1 p397 q397; cases e397; replace p397 := eq_true p397; replace q397 := eq_true q397; go_wp2
        repeat (go_quiet (fail); try go_wp2)
        go_roundg k1
        case measure => have := HK1.out; omega
        case rel => exact ⟨(wrap64 (x5_1 + 1)), rf_, H', ⟨by have := HK1.out; omega⟩, dr_⟩
      ·rw [if_neg c6] at H
       exact absurd H (by simp)
     ·rw [if_neg c5] at H
      exact absurd H (by simp)
    ·rw [if_neg c4] at H
     have c4b0 : decide (x5_1 < (l0.length : Int)) = false := decide_eq_false c4; clear c4; obtain rfl := Option.some.inj H; go_wp2
     repeat (go_quiet (fail); try go_wp2)
     go_ret
     exact ⟨rf_, dr_⟩
 ·rw [if_neg c3] at H
  have c3b0 : ((l0.length : Int) == (l1.length : Int)) = false := beq_eq_false_iff_ne.mpr c3; have c3b1 : ((l0.length : Int) != (l1.length : Int)) = true := bne_iff_ne.mpr c3
  have c3b2 : (l0.length == l1.length) = false := by first | simpa using c3 | (simp at c3 ⊢; omega)
  obtain rfl := Option.some.inj H
  go_enter Try.func26, Try.ntmps26
  go_wp2
  repeat (go_quiet (fail); try go_wp2)
  go_ret
  exact ⟨rf_, dr_⟩
def signatorylaw34_one.f  : Option ((List (List Int)) × List Int) := some ((([(([1] : List Int))] : List (List Int))), (([4] : List Int)))
set_option maxHeartbeats 8000000 in
set_option maxRecDepth 100000 in
theorem signatorylaw34_one.calls  (r1 : List (List Int)) (r2 : List Int) (w : World) (h : signatorylaw34_one.f  = some (r1, r2)) :
  Calls Try.prog 81 #[] w fun e w' => ∃ v0_ v1_ : Value, e = .returned (.agg #[v0_, v1_]) ∧ Kd.N (Kd.slice 3 (Kd.int .i64)) 23 w' w.heap.size (fun k_ => (w.heap.size ≤ k_) ∧ some k_ ≠ (v1_ : Value).ownBlock) v0_ r1 ∧ Kd.R (Kd.int .i64) 3 w' w.heap.size (fun k_ => (w.heap.size ≤ k_)) v1_ r2 ∧ Below w.heap.size w w' := by
 have hu25 := Try.underlying25; have HB := Aside0.mk (Below.refl w.heap.size w); have H : (some ((([(([1] : List Int))] : List (List Int))), (([4] : List Int)))) = some (r1, r2) := h; clear h
 obtain ⟨y418, hy418⟩ : ∃ y_ : List Int, y_ = (([1] : List Int)) := ⟨_, rfl⟩
 replace H : (some ((([y418] : List (List Int))), (([4] : List Int)))) = some (r1, r2) := by first | (rw [hy418]; with_reducible exact H) | (have H2_ := (Option.bind_some _ _).symm.trans H; rw [hy418]; with_reducible exact H2_) | (have H2_ := (Option.bind_some _ _).symm.trans H; with_reducible exact H2_) | with_reducible exact H | (rw [hy418]; exact H) | exact H
 have Ny418 := Aside0.mk hy418; clear hy418
 obtain ⟨y421, hy421⟩ : ∃ y_ : List (List Int), y_ = (([y418] : List (List Int))) := ⟨_, rfl⟩
 replace H : (some (y421, (([4] : List Int)))) = some (r1, r2) := by first | (rw [hy421]; with_reducible exact H) | (have H2_ := (Option.bind_some _ _).symm.trans H; rw [hy421]; with_reducible exact H2_) | (have H2_ := (Option.bind_some _ _).symm.trans H; with_reducible exact H2_) | with_reducible exact H | (rw [hy421]; exact H) | exact H
 have Ny421 := Aside0.mk hy421; clear hy421
 obtain ⟨y424, hy424⟩ : ∃ y_ : List Int, y_ = (([4] : List Int)) := ⟨_, rfl⟩
 replace H : (some (y421, y424)) = some (r1, r2) := by first | (rw [hy424]; with_reducible exact H) | (have H2_ := (Option.bind_some _ _).symm.trans H; rw [hy424]; with_reducible exact H2_) | (have H2_ := (Option.bind_some _ _).symm.trans H; with_reducible exact H2_) | with_reducible exact H | (rw [hy424]; exact H) | exact H
 have Ny424 := Aside0.mk hy424; clear hy424; simp only [Option.some.injEq, Prod.mk.injEq] at H; obtain ⟨rfl, rfl⟩ := H
 go_enter Try.func81, Try.ntmps81
 go_wp2_with (first | ((with_reducible refine gate_dst (N := 0) rfl ?_); refine box_event ?hg (N := 0) ?hd (cs := #[.slice none 0 0, .slice none 0 0]) (t := 25) ?hr ?_; (case hd => rfl); (case hg => rfl); (case hr => first | (go_simp; done) | (go_simp; rfl)); intro gb417 hg w1 hbox hb; have n0_ := Aside0.mk (below_step hb_ hb); have n1_ := Aside0.mk (hbox); have n2_ := Aside0.mk ((by rw [hg]; exact (below_size hb_) : w.heap.size ≤ gb417)); have n3_ := Aside0.mk ((by rw [hg]; exact (below_size hb_) : w.heap.size ≤ gb417)); clear HB; have HB := n0_; have BK417 := n1_; have GW417 := n2_; have GE_ := n3_; clear n0_ n1_ n2_ n3_; clear hb hbox hg) | ((with_reducible refine gate_dst (N := 1) rfl ?_); refine Kd.R_lit (Kd.int .i64) _ 3 ?hg (N := 1) ?hd (xs := ([1] : List Int)) (inner := [.int .i64 1]) (ok := fun _ => True) (okp := fun _ => True) ?hr ?hp (fun _ hk => hk) trivial (Below.refl _ _) (Nat.le_refl _) (by simp) ?_; (case hd => rfl); (case hg => rfl); (case hr => first | (go_simp; done) | (go_simp; rfl)); (case hp => exact (Reps.one (show Kd.M (Kd.int .i64) _ _ _ 1 [.int .i64 1] from rfl) (Reps.none _ _))); intro v419 w2 ho3 hb hg_ hnew_; clear hg_ hnew_; (first | rw [← Ny418.out] at ho3 | (simp only [Int.reduceToNat] at ho3; rw [← Ny418.out] at ho3)); have n0_ := Aside0.mk (Kd.R_lower (Kd.R_newM (M := fun k_ => (w.heap.size ≤ k_)) ho3 (below_size hg_) (fun k_ h_ => h_)) (below_size hg_)); have n1_ := Aside0.mk (blk_below (g := gb417) (o := .cells #[.slice none 0 0, .slice none 0 0] 25 (0, 0)) (bk_ BK417.out) hb); have n2_ := Aside0.mk (below_step hg_ hb); clear BK417; clear HB; have HO420 := n0_; have BK417 := n1_; have HB := n2_; clear n0_ n1_ n2_; clear hb ho3; obtain ⟨Ao4, co4, eo4⟩ := Kd.R_slice HO420.out; subst eo4) | ((with_reducible refine gate_dst (N := 2) rfl ?_); refine Kd.N_lit (Kd.slice 3 (Kd.int .i64)) _ 23 ?hg (N' := 2) ?hd (xs := ([y418] : List (List Int))) (inner := [.slice Ao4 y418.length co4]) (ok := (fun k_ => (w.heap.size ≤ k_) ∧ k_ ≠ gb417)) (okp := (fun k_ => (w.heap.size ≤ k_) ∧ k_ ≠ gb417)) ?hr ?hp (fun _ hk => hk) ((show ∀ k_, w2.heap.size ≤ k_ → (fun k_ => (w.heap.size ≤ k_) ∧ k_ ≠ gb417) k_ from fun k_ hk => ⟨(Nat.le_trans (below_size hg_) hk), Kd.freshB (g := gb417) (o := .cells #[.slice none 0 0, .slice none 0 0] 25 (0, 0)) (bk_ BK417.out) k_ hk⟩) _ (Nat.le_refl _)) (Below.refl _ _) (Nat.le_refl _) (by simp) ?_; (case hd => rfl); (case hg => rfl); (case hr => first | (go_simp; done) | (go_simp; rfl)); (case hp => exact (Reps.one (show Kd.FK (Kd.slice 3 (Kd.int .i64)) _ _ y418 [.slice Ao4 y418.length co4] from (Kd.FK_slice_mk (Kd.R_reads' (Kd.R_mono (ok' := (fun k_ => (w.heap.size ≤ k_) ∧ k_ ≠ gb417)) (Kd.R_types (HO420.out) BK417.out (by decide)) (fun k_ hk => ⟨hk.1.1, hk.2⟩))).2.1 (Kd.R_F (Kd.R_mono (ok' := (fun k_ => (w.heap.size ≤ k_) ∧ k_ ≠ gb417)) (Kd.R_types (HO420.out) BK417.out (by decide)) (fun k_ hk => ⟨hk.1.1, hk.2⟩))))) (Reps.none _ _))); intro v422 w5 ho6 hb hg_ hnew_; clear hg_ hnew_; (first | rw [← Ny421.out] at ho6 | (simp only [Int.reduceToNat] at ho6; rw [← Ny421.out] at ho6)); have n0_ := Aside0.mk (Kd.N_lower ho6 (below_size hg_)); have n1_ := Aside0.mk (blk_below (g := gb417) (o := .cells #[.slice none 0 0, .slice none 0 0] 25 (0, 0)) (bk_ BK417.out) hb); have n2_ := Aside0.mk (below_step hg_ hb); clear BK417; clear HB; clear HO420; have HO423 := n0_; have BK417 := n1_; have HB := n2_; clear n0_ n1_ n2_; clear hb ho6) | ((with_reducible refine gate_dst (N := 3) rfl ?_); refine Kd.R_lit (Kd.int .i64) _ 3 ?hg (N := 3) ?hd (xs := ([4] : List Int)) (inner := [.int .i64 4]) (ok := fun _ => True) (okp := fun _ => True) ?hr ?hp (fun _ hk => hk) trivial (Below.refl _ _) (Nat.le_refl _) (by simp) ?_; (case hd => rfl); (case hg => rfl); (case hr => first | (go_simp; done) | (go_simp; rfl)); (case hp => exact (Reps.one (show Kd.M (Kd.int .i64) _ _ _ 4 [.int .i64 4] from rfl) (Reps.none _ _))); intro v425 w7 ho8 hb hg_ hnew_; clear hg_ hnew_; (first | rw [← Ny424.out] at ho8 | (simp only [Int.reduceToNat] at ho8; rw [← Ny424.out] at ho8)); have n0_ := Aside0.mk (Kd.N_elder' (rn_ HO423.out) (Kd.R_base ho8) hb); have n1_ := Aside0.mk (Kd.R_lower (Kd.R_newM (M := fun k_ => (w.heap.size ≤ k_)) ho8 (below_size hg_) (fun k_ h_ => h_)) (below_size hg_)); have n2_ := Aside0.mk (blk_below (g := gb417) (o := .cells #[.slice none 0 0, .slice none 0 0] 25 (0, 0)) (bk_ BK417.out) hb); have n3_ := Aside0.mk (below_step hg_ hb); clear HO423; clear BK417; clear HB; have HO423 := n0_; have HO426 := n1_; have BK417 := n2_; have HB := n3_; clear n0_ n1_ n2_ n3_; clear hb ho8; obtain ⟨Ao9, co9, eo9⟩ := Kd.R_slice HO426.out; subst eo9; obtain ⟨Ao10, co10, eo10⟩ := Kd.N_slice HO423.out; subst eo10; have hcz11_0 : w7.cell? ⟨gb417, 0, none⟩ = some (.slice none 0 0) := (blk_cell BK417.out 0).trans rfl; have hcz11_1 : w7.cell? ⟨gb417, 1, none⟩ = some (.slice none 0 0) := (blk_cell BK417.out 1).trans rfl; have hfz11_0 := blk_frozen BK417.out 0; have hfz11_1 := blk_frozen BK417.out 1)); refine bodyPost_ret (results_cell_row rfl _ _ gb417 25 #[.slice Ao10 y421.length co10, .slice Ao9 y424.length co9] (0, 0) _ rfl (by (with_reducible repeat (first | refine blk_drewN ?_ _ | refine blk_drew ?_ | refine blk_alloc ?_ _)); refine blk_put (cs := #[.slice Ao10 y421.length co10, .slice none 0 0]) ?_ 1 _ rfl; (with_reducible repeat (first | refine blk_drewN ?_ _ | refine blk_drew ?_ | refine blk_alloc ?_ _)); refine blk_put (cs := #[.slice none 0 0, .slice none 0 0]) ?_ 0 _ rfl; (with_reducible repeat (first | refine blk_drewN ?_ _ | refine blk_drew ?_ | refine blk_alloc ?_ _)); exact BK417.out) Try.underlying25 rfl (by kernel_rfl)) rfl ?_; exact ⟨_, _, by first | rfl | (simp [errW_none, errW_some] <;> rfl) | (simp [*, errW_none, errW_some] <;> rfl), by (with_reducible repeat (first | apply Kd.N_alloc | apply Kd.N_drewN | apply Kd.N_drew)); exact Kd.N_mono (Kd.N_far (p := ⟨gb417, 1, none⟩) (Kd.N_far (p := ⟨gb417, 0, none⟩) (Kd.N_mono HO423.out (fun k_ hk => (⟨hk, hk.1.2⟩ : _ ∧ k_ ≠ gb417))) (fun _ hk => hk.2) (.slice Ao10 y421.length co10)) (fun _ hk => hk.2) (.slice Ao9 y424.length co9)) (fun _ hk => ⟨hk.1.1.1, hk.1.2⟩), by (with_reducible repeat (first | apply Kd.R_alloc | apply Kd.R_drewN | apply Kd.R_drew)); exact Kd.R_mono (Kd.R_far (p := ⟨gb417, 1, none⟩) (Kd.R_far (p := ⟨gb417, 0, none⟩) (Kd.R_types HO426.out BK417.out (by decide)) (fun _ hk => hk.2) (.slice Ao10 y421.length co10)) (fun _ hk => hk.2) (.slice Ao9 y424.length co9)) (fun _ hk => hk.1.1), by repeat (first | (with_reducible first | exact HB.out | apply below_alloc | apply pw_below_drewN | apply below_drew1 | refine below_set ?_ GE_.out) | exact HB.out)⟩
end Go.Proofs.Ytdbamhckgaoibaa.P
namespace Go.Proofs.Ytdbamhckgaoibaa.P
open Go.RowKit Go.Proofs.YtdbamhckgaoibaaW.PrintWords Go.Proofs.YtdbamhckgaoibaaW.PrintLast Go.Proofs.YtdbamhckgaoibaaW.PrintMore
theorem ref_l2 (rows : List (List Int)) (owners : List Int) (i : Nat) (hi : i < rows.length) (hl : (rows.getD i []).length < 1000000) (hn : rows.length < 1000000) (k : Nat) : ∀ d j, (rows.getD i []).length - j = d → j ≤ (rows.getD i []).length →
    signatoryref23_Check.l2 (k + d + 1) (i : Int) (j : Int) rows owners = if ((rows.getD i []).drop j).any outQ then some 230 else signatoryref23_Check.l1 k ((i + 1 : Nat) : Int) rows owners := by
  intro d
  induction d with
  | zero =>
    intro j hd hj
    obtain rfl : j = (rows.getD i []).length := by omega
    rw [signatoryref23_Check.l2, if_pos (by omega), if_pos (by omega), rd_L1_nat, if_neg (by omega), wrap_succ (by omega), List.drop_length]; rfl
  | succ d ih =>
    intro j hd hj
    have hjr : j < (rows.getD i []).length := by omega
    have e2 : (rows.getD i []).getD j 0 = (rows.getD i [])[j] := by rw [List.getD_eq_getElem?_getD, List.getElem?_eq_getElem hjr]; rfl
    rw [signatoryref23_Check.l2, if_pos (by omega), if_pos (by omega), rd_L1_nat, if_pos (by omega), if_pos (by omega), rd_nat, e2, List.drop_eq_getElem_cons hjr, List.any_cons]; generalize (rows.getD i [])[j] = x
    by_cases h1 : x < 0
    · rw [if_pos h1, outQ_low h1]; rfl
    · rw [if_neg h1]
      by_cases h2 : x ≥ 1073741789
      · rw [if_pos h2, outQ_high h1, decide_eq_true h2]; rfl
      · rw [if_neg h2, outQ_high h1, decide_eq_false (by omega), Bool.false_or, wrap_succ (by omega), ← Nat.add_assoc]
        exact ih (j + 1) (by omega) (by omega)
theorem ref_l1 (rows : List (List Int)) (owners : List Int) (ho : rows.length = owners.length) (hl : ∀ i, i < rows.length → (rows.getD i []).length ≤ 64) (hn : rows.length < 1000000) : ∀ d i k, rows.length - i = d → i ≤ rows.length → 70 * d + 1 ≤ k →
    signatoryref23_Check.l1 k (i : Int) rows owners = some (if goodFrom rows owners d i then 0 else 230) := by
  intro d
  induction d with
  | zero =>
    intro i k hd hi hk
    obtain ⟨k, rfl⟩ : ∃ k', k = k' + 1 := ⟨k - 1, by omega⟩
    rw [signatoryref23_Check.l1, if_neg (by omega)]; rfl
  | succ d ih =>
    intro i k hd hi hk; have hil := hl i (by omega)
    obtain ⟨k, rfl⟩ : ∃ k', k = k' + (rows.getD i []).length + 1 + 1 + 1 := ⟨k - (rows.getD i []).length - 3, by omega⟩
    rw [signatoryref23_Check.l1, if_pos (by omega), if_pos (by omega), rd_L1_nat, rdL0, rd_nat, goodFrom]; unfold goodAt
    by_cases h0 : (rows.getD i []).length = 0
    · have e0 : ((rows.getD i []).length != 0) = false := bne_eq_false_iff_eq.2 h0
      rw [if_pos (by omega), signatoryref23_Check.j2, if_pos rfl, e0]; rfl
    · have e0 : ((rows.getD i []).length != 0) = true := bne_iff_ne.2 h0
      rw [if_neg (by omega), if_pos (by omega), e0]
      by_cases h1 : (rows.getD i []).length = (rows.getD 0 []).length
      · have e1 : ((rows.getD i []).length == (rows.getD 0 []).length) = true := beq_iff_eq.2 h1
        rw [if_pos (by omega), if_pos (by omega), e1]; have hj := ref_l2 rows owners i (by omega) (by omega) hn k (rows.getD i []).length 0 (by omega) (by omega); rw [List.drop_zero, ih (i + 1) k (by omega) (by omega) (by omega)] at hj
        by_cases h2 : owners.getD i 0 < 0
        · rw [if_pos h2, signatoryref23_Check.j2, if_pos rfl, decide_eq_false (show ¬ 0 ≤ owners.getD i 0 by omega)]; rfl
        · rw [if_neg h2, signatoryref23_Check.j2, decide_eq_true (show 0 ≤ owners.getD i 0 by omega)]
          by_cases h3 : owners.getD i 0 ≥ 64
          · rw [decide_eq_true h3, if_pos rfl, decide_eq_false (show ¬ owners.getD i 0 ≤ 63 by omega)]; rfl
          · rw [decide_eq_false h3, if_neg (by decide), decide_eq_true (show owners.getD i 0 ≤ 63 by omega)]
            refine hj.trans ?_
            cases (rows.getD i []).any outQ <;> rfl
      · have e1 : ((rows.getD i []).length == (rows.getD 0 []).length) = false := beq_eq_false_iff_ne.2 h1
        rw [if_neg (by omega), signatoryref23_Check.j2, if_pos rfl, e1]; rfl
theorem ref_l0 (rows : List (List Int)) (owners : List Int) (hn : rows.length < 1000000) (k : Nat) : ∀ d j, rows.length - j = d → j ≤ rows.length →
    signatoryref23_Check.l0 (k + d + 1) (j : Int) rows owners = if (rows.drop j).any isLong then some 2 else if rows.length = owners.length then signatoryref23_Check.l1 k 0 rows owners else some 230 := by
  intro d
  induction d with
  | zero =>
    intro j hd hj
    obtain rfl : j = rows.length := by omega
    rw [signatoryref23_Check.l0, if_neg (by omega), List.drop_length]
    by_cases h : rows.length = owners.length
    · rw [if_pos (by omega), if_neg (by simp), if_pos h]
    · rw [if_neg (by omega), if_neg (by simp), if_neg h]
  | succ d ih =>
    intro j hd hj
    have hjr : j < rows.length := by omega
    have e2 : rows.getD j [] = rows[j] := by rw [List.getD_eq_getElem?_getD, List.getElem?_eq_getElem hjr]; rfl
    rw [signatoryref23_Check.l0, if_pos (by omega), if_pos (by omega), rd_L1_nat, e2, List.drop_eq_getElem_cons hjr, List.any_cons]; generalize rows[j] = x; unfold isLong
    by_cases h : 64 < x.length
    · rw [if_pos (by omega), decide_eq_true h]; rfl
    · rw [if_neg (by omega), decide_eq_false h, Bool.false_or, wrap_succ (by omega), ← Nat.add_assoc]
      exact ih (j + 1) (by omega) (by omega)
theorem refCheck_math (rows : List (List Int)) (owners : List Int) (k : Nat) (hk : 5000 ≤ k) : signatoryref23_Check.f k rows owners = some (checkP rows owners) := by
  unfold signatoryref23_Check.f checkP
  by_cases h : 64 < rows.length
  · rw [if_pos (by omega), decide_eq_true h]; rfl
  · rw [if_neg (by omega), decide_eq_false h, Bool.false_or]
    obtain ⟨k, rfl⟩ : ∃ k', k = k' + rows.length + 1 := ⟨k - rows.length - 1, by omega⟩
    have h0 := ref_l0 rows owners (by omega) k rows.length 0 (by omega) (by omega); rw [List.drop_zero] at h0; refine h0.trans ?_
    cases hl : rows.any isLong with
    | true => rfl
    | false =>
      by_cases ho : rows.length = owners.length
      · have hl' : ∀ i, i < rows.length → (rows.getD i []).length ≤ 64 := fun i hi => by
          have := List.any_eq_false.1 hl _ (Sig.getD_mem hi); unfold isLong at this; simp only [decide_eq_true_eq] at this; omega
        have h1 := ref_l1 rows owners ho hl' (by omega) rows.length 0 k (by omega) (by omega) (by omega); rw [if_neg (by decide), if_pos ho, if_neg (by decide), if_pos ho]; exact h1
      · rw [if_neg (by decide), if_neg ho, if_neg (by decide), if_neg ho]
end Go.Proofs.Ytdbamhckgaoibaa.P
namespace Go.Proofs.Ytdbamhckgaoibaa.P
open Go.RowKit Go.Proofs.YtdbamhckgaoibaaW.PrintWords Go.Proofs.YtdbamhckgaoibaaW.PrintLast Go.Proofs.YtdbamhckgaoibaaW.PrintMore
theorem colsRef_math {rows : List (List Int)} {owners : List Int} : signatoryref34_Columns.f rows owners = some (colsP rows : Int) := by
  unfold signatoryref34_Columns.f colsP
  by_cases h : rows.length = 0
  · rw [if_pos (by omega), if_pos h]; rfl
  · rw [if_neg (by omega), if_neg h, if_pos (by omega), rdL0]
end Go.Proofs.Ytdbamhckgaoibaa.P
namespace Go.Proofs.Ytdbamhckgaoibaa.P
open Go.RowKit Go.Proofs.YtdbamhckgaoibaaW.PrintWords Go.Proofs.YtdbamhckgaoibaaW.PrintLast Go.Proofs.YtdbamhckgaoibaaW.PrintMore
set_option linter.unusedVariables false
set_option linter.unusedSimpArgs false
theorem own_shrink {w : World} {base g n cap : Nat} {e : TypeId} {xs : List Value} (h : w.ownsRow base e 1 (.slice (some ⟨g, 0, none⟩) n cap) n xs) : w.ownsRow base e 1 (.slice (some ⟨g, 0, none⟩) 0 cap) 0 [] := by
  refine ⟨rfl, ?_⟩
  rcases h.2 with ⟨h1, _⟩ | ⟨g', cap', cur, h1, h2, h3, h4, h5, h6, h7⟩
  · cases h1
  · injection h1 with h1 _ h8
    injection h1 with h1; injection h1 with h1; subst h1 h8; exact .inr ⟨g, cap, cur, rfl, h2, h3, Nat.zero_le _, h5, h6, by simp⟩
theorem grow_form {n base : Nat} {w1 : World} {v1 : Value} (h0 : 0 < n) (h1 : Kd.R (Kd.int .i64) 3 w1 base (fun _ => True) v1 ([] ++ List.replicate (n : Int).toNat 0)) :
    ∃ gv cap, v1 = .slice (some ⟨gv, 0, none⟩) n cap ∧ Aside0 (w1.ownsRow base 3 1 (.slice (some ⟨gv, 0, none⟩) 0 cap) 0 []) := by
  obtain ⟨inner, ho⟩ := Kd.R_own h1
  have hle : (([] : List Int) ++ List.replicate (n : Int).toNat (0 : Int)).length = n := by simp
  rw [hle] at ho
  obtain ⟨gv, cap, rfl⟩ : ∃ gv cap, v1 = .slice (some ⟨gv, 0, none⟩) n cap := by
    rcases ho.2 with ⟨_, h⟩ | ⟨gv, cap, cur, h, _⟩
    · omega
    · exact ⟨gv, cap, h⟩
  exact ⟨gv, cap, rfl, ⟨own_shrink ho⟩⟩
theorem ReadsInt_of_C {w : World} {A : Option Addr} {n : Nat} {xs : List Int} (h : Kd.C (Kd.int .i64) w A n xs) : ReadsInt w .i64 A n xs :=
  ⟨h.1, h.2.1, fun hn => by
    obtain ⟨ad, e, hx⟩ := Kd.at_int h 0 (Int.le_refl _) (by omega); refine ⟨ad, e, fun j hj => ?_⟩; obtain ⟨ad', e', hx'⟩ := Kd.at_int h (j : Int) (by omega) (by omega); rw [e] at e'; injection e' with e'; subst e'; rw [Int.toNat_natCast] at hx'
    rw [hx', rd_nat]⟩
set_option maxRecDepth 100000 in
set_option maxHeartbeats 1000000 in
theorem grow_nil (n : Nat) (w : World) (hn : n ≤ 1000000) : Calls Try.prog 163 #[.slice none 0 0, .int .i64 (n : Int)] w fun e w' => ∃ v, e = .returned v ∧ w'.ownsRow w.heap.size 3 1 v 0 [] ∧ Below w.heap.size w w' := by
  have c1 : decide ((n : Int) < 0) = false := decide_eq_false (by omega)
  by_cases h0 : 0 < n
  · have c2 : decide ((n : Int) > 0) = true := decide_eq_true (by omega)
    go_enter Try.func163, Try.ntmps163
    go_wp2_with (at_builtin; refine Kd.R_append_zeros (Kd.int .i64) (w0 := w) w.heap.size rfl _ _ 23 3 3 (.int .i64 0) 8 rfl (by kernel_rfl) (k := .i64) (by kernel_rfl) (by kernel_rfl) rfl (by decide) (by decide) (.slice none 0 0) [] (0 : Int) (n : Int) (fun _ => True) rfl rfl (by rfl) (fun _ _ => trivial) (Kd.R_nil _ _ _ _ _) (by omega) (Below.refl _ _) (Nat.le_refl _) (by simp; omega) ?_; intro v1 w1 h1 hB1 hg hat; obtain ⟨gv, cap, rfl, HO⟩ := grow_form h0 h1; have HB := Aside0.mk hB1; clear h1 hB1 hg hat)
    go_ret
    exact ⟨_, rfl, HO.out, HB.out⟩
  · obtain rfl : n = 0 := by omega
    go_enter Try.func163, Try.ntmps163
    go_wp2
    go_ret
    exact ⟨_, rfl, World.ownsRow_nil _ _ _ _, Below.refl _ _⟩
def sizesOf (l : List (List Int)) : Nat := (l.map List.length).sum
theorem sizes_take (l : List (List Int)) (j : Nat) (h : j < l.length) : sizesOf (l.take (j + 1)) = sizesOf (l.take j) + l[j].length := by
  unfold sizesOf
  rw [List.take_succ_eq_append_getElem h, List.map_append, List.sum_append]; simp
theorem sizes_le (l : List (List Int)) (j : Nat) : sizesOf (l.take j) ≤ sizesOf l := by
  unfold sizesOf
  conv => rhs; rw [← List.take_append_drop j l, List.map_append, List.sum_append]
  omega
theorem flatten_take (l : List (List Int)) (j : Nat) (h : j < l.length) : (l.take (j + 1)).flatten = (l.take j).flatten ++ l[j] := by
  rw [List.take_succ_eq_append_getElem h, List.flatten_append]; simp
theorem flatten_size (l : List (List Int)) : l.flatten.length = sizesOf l := by
  rw [List.length_flatten]; rfl
set_option maxRecDepth 100000 in
set_option maxHeartbeats 4000000 in
theorem concat_c (A0 : Option Addr) (c0 : Nat) (l : List (List Int)) (w : World) (hr : Kd.C (Kd.slice 3 (Kd.int .i64)) w A0 l.length l) (hs : sizesOf l ≤ 1000000) :
    Calls Try.prog 85 #[.slice A0 l.length c0] w fun e w' => ∃ v, e = .returned v ∧ w'.ownsRow w.heap.size 3 1 v l.flatten.length (nums .i64 l.flatten) ∧ Below w.heap.size w w' := by
  have HR := Aside0.mk hr; have hlen : l.length ≤ 9223372036854775807 := hr.2.1; have HG := Aside0.mk (fun (W : World) => grow_nil (sizesOf l) W hs); have HS := Aside0.mk hs; clear hr hs
  go_enter Try.func85, Try.ntmps85
  go_wp2
  go_loopg [3, 11] l.length (fun gk v3 v11 w' => ∃ j : Nat, j ≤ l.length ∧ gk = l.length - j ∧ v11 = .int .i64 (j : Int) ∧ v3 = .int .i64 (sizesOf (l.take j) : Int) ∧ w = w')
  case atStart => exact ⟨0, Nat.zero_le _, rfl, rfl, rfl, rfl⟩
  case round =>
    obtain ⟨j, hj, rfl, rfl, rfl, hwe⟩ := hrel; subst hwe
    by_cases hlt : j < l.length
    · have d1 : decide ((j : Int) < (l.length : Int)) = true := decide_eq_true (by omega)
      have d2 : decide (j < l.length) = true := decide_eq_true hlt
      have d4 : (0 : Int) ≤ (j : Int) := by omega
      obtain ⟨ad, A1, c3, e, hx, hx2, hx3⟩ := at_L1 HR.out (j : Int) (by omega) (by omega); cases e; rw [Int.toNat_natCast, rd_L1_nat] at hx
      have e1 : l.getD j [] = l[j] := by rw [List.getD_eq_getElem?_getD, List.getElem?_eq_getElem hlt]; rfl
      rw [e1] at hx; have hst := sizes_take l j hlt; have hsl := sizes_le l (j + 1); have HST := Aside0.mk hst
      have hb : sizesOf (l.take j) + l[j].length ≤ 1000000 := by have := HS.out; omega
      generalize l[j].length = m at hx hst HST hb; generalize sizesOf (l.take j) = sj at hst HST hb ⊢; have d5 : decide (((sj : Int) + (m : Int)) < 0) = false := decide_eq_false (by omega); clear hx2 hx3 e1 hst hsl; go_wp2
      go_roundg (l.length - (j + 1))
      case measure => omega
      case rel => exact ⟨j + 1, by omega, rfl, by first | rfl | rw [wrap_succ (by omega)], by rw [HST.out]; rfl, rfl⟩
    · obtain rfl : j = l.length := by omega
      have d1 : decide ((l.length : Int) < (l.length : Int)) = false := decide_eq_false (by omega); rw [List.take_length]; go_wp2_with fail; refine (HG.out _).mono ?_; rintro e w1 ⟨v1, rfl, ho1, hb1⟩; obtain ⟨vA, vc, rfl⟩ := own_len ho1; have HO1 := Aside0.mk ho1; have HB1 := Aside0.mk hb1; clear ho1 hb1 HG; go_wp2
      go_loopg [6, 27] l.length (fun gk v6 v27 w' => ∃ j : Nat, j ≤ l.length ∧ gk = l.length - j ∧ v27 = .int .i64 (j : Int) ∧ Aside0 (w'.ownsRow w.heap.size 3 1 v6 (l.take j).flatten.length (nums .i64 (l.take j).flatten)) ∧ Aside0 (Below w.heap.size w w'))
      case atStart => exact ⟨0, Nat.zero_le _, rfl, rfl, HO1, HB1⟩
      case round =>
        obtain ⟨j, hj, rfl, rfl, HO, HB⟩ := hrel
        by_cases hlt : j < l.length
        · have d1 : decide ((j : Int) < (l.length : Int)) = true := decide_eq_true (by omega)
          have d2 : decide (j < l.length) = true := decide_eq_true hlt
          have d4 : (0 : Int) ≤ (j : Int) := by omega
          obtain ⟨ad, A1, c3, e, hx, hx2, hx3⟩ := at_L1 HR.out (j : Int) (by omega) (by omega); cases e; rw [Int.toNat_natCast, rd_L1_nat] at hx; rw [rd_L1_nat] at hx2 hx3
          have e1 : l.getD j [] = l[j] := by rw [List.getD_eq_getElem?_getD, List.getElem?_eq_getElem hlt]; rfl
          rw [e1] at hx hx2 hx3; replace hx := (HB.out.cell (World.block_lt_of_cell? w _ hx)).trans hx; have HX3 := Aside0.mk (Kd.C_below hx3 HB.out); have hft := flatten_take l j hlt; have HFT := Aside0.mk hft
          have hsz : ((l.take j).flatten.length + l[j].length) * 8 ≤ 140737488355328 := by
            have h1 := flatten_size (l.take (j + 1)); rw [hft, List.length_append] at h1; have := sizes_le l (j + 1); have := HS.out; omega
          have HSZ := Aside0.mk hsz; generalize l[j] = y at hx hx2 HX3 HFT HSZ; clear hx3 e1 hft hsz; obtain ⟨vA, vc, rfl⟩ := own_len HO.out; go_wp2_with (at_builtin; refine print_append_row (w0 := w) w.heap.size rfl _ _ 23 3 .i64 8 rfl (by kernel_rfl) (by kernel_rfl) (by decide) _ (l.take j).flatten y A1 y.length c3 rfl rfl HO.out (ReadsInt_of_C HX3.out) HB.out HB.out.size HSZ.out ?_; intro v1 w2 h1 hB1 hg hat; have HO2 := Aside0.mk h1; have HB2 := Aside0.mk hB1; clear h1 hB1 hg hat)
          go_roundg (l.length - (j + 1))
          case measure => omega
          case rel => exact ⟨j + 1, by omega, rfl, by first | rfl | rw [wrap_succ (by omega)], ⟨by rw [HFT.out]; exact HO2.out⟩, HB2⟩
        · obtain rfl : j = l.length := by omega
          have d1 : decide ((l.length : Int) < (l.length : Int)) = false := decide_eq_false (by omega); have ho := HO.out; rw [List.take_length] at ho; have HO2 := Aside0.mk ho; clear ho; go_wp2
          go_ret
          exact ⟨_, rfl, HO2.out, HB.out⟩
def slices_Concat_int_int.f (l0 : List (List Int)) : Option (List Int) := if sizesOf l0 ≤ 1000000 then some l0.flatten else none
theorem slices_Concat_int_int.calls (A0 : Option Addr) (c0 : Nat) (l0 : List (List Int)) (r : List Int) (w : World) (hr0 : Kd.C (Kd.slice 3 (Kd.int .i64)) w A0 l0.length l0) (hc0 : l0.length ≤ c0) (h : slices_Concat_int_int.f l0 = some r) :
    Calls Try.prog 85 #[.slice A0 l0.length c0] w fun e w' => ∃ v0_ : Value, e = .returned v0_ ∧ Kd.R (Kd.int .i64) 3 w' w.heap.size (fun _ => True) v0_ r ∧ Below w.heap.size w w' := by
  unfold slices_Concat_int_int.f at h
  split at h
  · cases h
    refine (concat_c A0 c0 l0 w hr0 (by assumption)).mono ?_; rintro e w' ⟨v, he, ho, hb⟩; exact ⟨v, he, R_of_owns ho (fun _ _ => trivial), hb⟩
  · cases h
end Go.Proofs.Ytdbamhckgaoibaa.P
namespace Go.Proofs.Ytdbamhckgaoibaa.P
open Go.RowKit Go.Proofs.YtdbamhckgaoibaaW.PrintWords Go.Proofs.YtdbamhckgaoibaaW.PrintLast Go.Proofs.YtdbamhckgaoibaaW.PrintMore
set_option linter.unusedVariables false
def dealQ (rows : List (List Int)) (owners : List Int) (secret : Int) (random : List Int) : List S38 × List Int × Int :=
  if checkP rows owners = 0 then (if inQ secret && !random.any outQ && decide (random.length + 1 = colsP rows) then (sharesQ rows (secret :: random), (secret :: random).map commitQ, 0) else ([], [], 1)) else ([], [], checkP rows owners)
theorem numbers_w {A : Option Addr} {c : Nat} {l : List Int} {W : World} (h : Sl (Kd.int .i64) W A c l) : Calls Try.prog 83 #[.slice A l.length c] W fun e w' => e = .returned (.bool (!l.any outQ)) ∧ Below W.heap.size W w' :=
  (dealing_numbers.calls A c l (!l.any outQ) W h.rd h.le (by unfold dealing_numbers.f contains_outQ.f; rfl)).mono fun _ _ h => ⟨h.1, h.2.below⟩
theorem cols_le {rows : List (List Int)} {owners : List Int} (h : checkP rows owners = 0) : colsP rows ≤ 64 := by
  have hP := check_ok h; unfold colsP
  split
  · decide
  · exact (hP.row 0 (by omega)).2.2.1
theorem deal_row {rows : List (List Int)} {owners : List Int} (h : checkP rows owners = 0) {secret : Int} {random s : List Int} (hn : random.length + 1 = colsP rows) (hs : s = secret :: random) {i : Nat} (hi : i < rows.length) : (rows.getD i []).length ≤ s.length := by
  have hP := check_ok h; have h1 := (hP.row i hi).2.1; rw [hs, List.length_cons, hn, colsP, if_neg (by omega), h1]; exact Nat.le_refl _
set_option maxRecDepth 100000 in
set_option maxHeartbeats 8000000 in
theorem deal_w {A0 A1 A2 : Option Addr} {c0 c1 c2 : Nat} {rows : List (List Int)} {owners : List Int} {secret : Int} {random : List Int} {w : World} (h0 : Sl (Kd.slice 3 (Kd.int .i64)) w A0 c0 rows) (h1 : Sl (Kd.int .i64) w A1 c1 owners) (h2 : Sl (Kd.int .i64) w A2 c2 random) :
    Calls Try.prog 22 #[.agg #[.slice A0 rows.length c0, .slice A1 owners.length c1], .int .i64 secret, .slice A2 random.length c2] w fun e w' => ∃ v0_ v1_ : Value, e = .returned (.tuple #[v0_, v1_, .int .i64 (dealQ rows owners secret random).2.2]) ∧
      Kd.R k38 38 w' w.heap.size (fun k_ => (w.heap.size ≤ k_)) v0_ (dealQ rows owners secret random).1 ∧ Kd.R (Kd.int .i64) 3 w' w.heap.size (fun k_ => (w.heap.size ≤ k_)) v1_ (dealQ rows owners secret random).2.1 ∧ Below w.heap.size w w' := by
  have H_rows := Aside0.mk h0; have H_own := Aside0.mk h1; have H_rnd := Aside0.mk h2; have HB := Aside0.mk (Below.refl w.heap.size w); clear h0 h1 h2
  obtain ⟨t, ht⟩ : ∃ t, t = checkP rows owners := ⟨_, rfl⟩
  have HK : Aside0 (∀ W, Sl (Kd.slice 3 (Kd.int .i64)) W A0 c0 rows → Sl (Kd.int .i64) W A1 c1 owners → Calls Try.prog 82 #[.agg #[.slice A0 rows.length c0, .slice A1 owners.length c1]] W fun e w' => e = .returned (.int .i64 t) ∧ Below W.heap.size W w') := ⟨fun W g0 g1 => by rw [ht]; exact program_Check.calls 66 A0 c0 rows A1 c1 owners _ W g0.rd g0.le g1.rd g1.le (check_math rows owners 66 (Nat.le_refl _))⟩
  rcases Decidable.em (t = 0) with h | h
  · skip
    have hd0 : checkP rows owners = 0 := ht.symm.trans h; clear ht; subst h
    cases hq1 : inQ secret with
    | false =>
      have HF : Aside0 (dealQ rows owners secret random = ([], [], 1)) := ⟨by unfold dealQ; rw [if_pos hd0, hq1]; rfl⟩
      have HS1 := Aside0.mk ((inQ_not secret).trans hq1); clear hq1 hd0
      go_enter Try.func22, Try.ntmps22
      go_wp2_with fail
      obtain ⟨w1, hw⟩ : ∃ W_, W_ = w.alloc (.cells #[.slice A0 rows.length c0, .slice A1 owners.length c1] 25) := ⟨_, rfl⟩
      rw [← hw]
      have hb : Below w.heap.size w w1 := by rw [hw]; exact below_alloc1 _ _
      have hz : w.heap.size = w.heap.size := rfl
      have hs : w1.heap.size = w.heap.size + 1 := by rw [hw, ← hz]; simp
      replace H_rows := Aside0.mk (H_rows.out.below hb); replace H_own := Aside0.mk (H_own.out.below hb); replace H_rnd := Aside0.mk (H_rnd.out.below hb); replace HB := Aside0.mk (below_then HB.out HB.out.size hb); have H_two0 := Aside0.mk (⟨by rw [hw, ← hz]; simp only [World.cell?]; rw [World.alloc_heap_new]; rfl, by rw [hs]; omega⟩ : w1.cell? ⟨w.heap.size, 0, none⟩ = some (.slice A0 rows.length c0) ∧ w.heap.size < w1.heap.size); have H_two1 := Aside0.mk (⟨by rw [hw, ← hz]; simp only [World.cell?]; rw [World.alloc_heap_new]; rfl, by rw [hs]; omega⟩ : w1.cell? ⟨w.heap.size, 1, none⟩ = some (.slice A1 owners.length c1) ∧ w.heap.size < w1.heap.size); clear hw hb hz
      have HZ := Aside0.mk hs; clear hs
      refine (HK.out _ H_rows.out H_own.out).mono ?_; rintro e w2 ⟨rfl, hb⟩; replace H_rows := Aside0.mk (H_rows.out.below hb); replace H_own := Aside0.mk (H_own.out.below hb); replace H_rnd := Aside0.mk (H_rnd.out.below hb); replace H_two0 := Aside0.mk (cell_on H_two0.out hb); replace H_two1 := Aside0.mk (cell_on H_two1.out hb); replace HB := Aside0.mk (below_then HB.out HB.out.size hb); clear hb; go_wp2_with fail
      obtain ⟨w3, hw⟩ : ∃ W_, W_ = w2.alloc (.cells #[.int .i64 secret] 3) := ⟨_, rfl⟩
      rw [← hw]
      have hb : Below w2.heap.size w2 w3 := by rw [hw]; exact below_alloc1 _ _
      have hz : w2.heap.size = w2.heap.size := rfl
      have hs : w3.heap.size = w2.heap.size + 1 := by rw [hw, ← hz]; simp
      have hl : Sl (Kd.int .i64) w3 (some ⟨w2.heap.size, 0, none⟩) 1 [secret] := by rw [hw, ← hz]; exact Sl.ints w2 3 [secret] (by show 1 ≤ 1000000; decide)
      replace H_rows := Aside0.mk (H_rows.out.below hb); replace H_own := Aside0.mk (H_own.out.below hb); replace H_rnd := Aside0.mk (H_rnd.out.below hb); replace H_two0 := Aside0.mk (cell_on H_two0.out hb); replace H_two1 := Aside0.mk (cell_on H_two1.out hb); replace HB := Aside0.mk (below_then HB.out HB.out.size hb)
      have H_s1 := Aside0.mk hl; clear hl
      clear hw hb hz
      have HZ := Aside0.mk hs; clear hs
      have HQ := numbers_w H_s1.out; rw [HS1.out] at HQ; refine (HQ).mono ?_; rintro e w4 ⟨rfl, hb⟩; replace H_rows := Aside0.mk (H_rows.out.below hb); replace H_own := Aside0.mk (H_own.out.below hb); replace H_rnd := Aside0.mk (H_rnd.out.below hb); replace H_two0 := Aside0.mk (cell_on H_two0.out hb); replace H_two1 := Aside0.mk (cell_on H_two1.out hb); clear H_s1; replace HB := Aside0.mk (below_then HB.out HB.out.size hb); clear hb; clear HQ; go_wp2
      go_ret3
      rw [HF.out]; exact ⟨_, _, rfl, Kd.R_nil _ _ _ _ _, Kd.R_nil _ _ _ _ _, HB.out⟩
    | true =>
      have HS1 := Aside0.mk ((inQ_not secret).trans hq1)
      cases hq2 : random.any outQ with
      | true =>
        have HF : Aside0 (dealQ rows owners secret random = ([], [], 1)) := ⟨by unfold dealQ; rw [if_pos hd0, hq1, hq2]; rfl⟩
        have HS2 := Aside0.mk (congrArg not hq2); clear hq1 hq2 hd0
        go_enter Try.func22, Try.ntmps22
        go_wp2_with fail
        obtain ⟨w1, hw⟩ : ∃ W_, W_ = w.alloc (.cells #[.slice A0 rows.length c0, .slice A1 owners.length c1] 25) := ⟨_, rfl⟩
        rw [← hw]
        have hb : Below w.heap.size w w1 := by rw [hw]; exact below_alloc1 _ _
        have hz : w.heap.size = w.heap.size := rfl
        have hs : w1.heap.size = w.heap.size + 1 := by rw [hw, ← hz]; simp
        replace H_rows := Aside0.mk (H_rows.out.below hb); replace H_own := Aside0.mk (H_own.out.below hb); replace H_rnd := Aside0.mk (H_rnd.out.below hb); replace HB := Aside0.mk (below_then HB.out HB.out.size hb); have H_two0 := Aside0.mk (⟨by rw [hw, ← hz]; simp only [World.cell?]; rw [World.alloc_heap_new]; rfl, by rw [hs]; omega⟩ : w1.cell? ⟨w.heap.size, 0, none⟩ = some (.slice A0 rows.length c0) ∧ w.heap.size < w1.heap.size); have H_two1 := Aside0.mk (⟨by rw [hw, ← hz]; simp only [World.cell?]; rw [World.alloc_heap_new]; rfl, by rw [hs]; omega⟩ : w1.cell? ⟨w.heap.size, 1, none⟩ = some (.slice A1 owners.length c1) ∧ w.heap.size < w1.heap.size); clear hw hb hz
        have HZ := Aside0.mk hs; clear hs
        refine (HK.out _ H_rows.out H_own.out).mono ?_; rintro e w2 ⟨rfl, hb⟩; replace H_rows := Aside0.mk (H_rows.out.below hb); replace H_own := Aside0.mk (H_own.out.below hb); replace H_rnd := Aside0.mk (H_rnd.out.below hb); replace H_two0 := Aside0.mk (cell_on H_two0.out hb); replace H_two1 := Aside0.mk (cell_on H_two1.out hb); replace HB := Aside0.mk (below_then HB.out HB.out.size hb); clear hb; go_wp2_with fail
        obtain ⟨w3, hw⟩ : ∃ W_, W_ = w2.alloc (.cells #[.int .i64 secret] 3) := ⟨_, rfl⟩
        rw [← hw]
        have hb : Below w2.heap.size w2 w3 := by rw [hw]; exact below_alloc1 _ _
        have hz : w2.heap.size = w2.heap.size := rfl
        have hs : w3.heap.size = w2.heap.size + 1 := by rw [hw, ← hz]; simp
        have hl : Sl (Kd.int .i64) w3 (some ⟨w2.heap.size, 0, none⟩) 1 [secret] := by rw [hw, ← hz]; exact Sl.ints w2 3 [secret] (by show 1 ≤ 1000000; decide)
        replace H_rows := Aside0.mk (H_rows.out.below hb); replace H_own := Aside0.mk (H_own.out.below hb); replace H_rnd := Aside0.mk (H_rnd.out.below hb); replace H_two0 := Aside0.mk (cell_on H_two0.out hb); replace H_two1 := Aside0.mk (cell_on H_two1.out hb); replace HB := Aside0.mk (below_then HB.out HB.out.size hb)
        have H_s1 := Aside0.mk hl; clear hl
        clear hw hb hz
        have HZ := Aside0.mk hs; clear hs
        have HQ := numbers_w H_s1.out; rw [HS1.out] at HQ; refine (HQ).mono ?_; rintro e w4 ⟨rfl, hb⟩; replace H_rows := Aside0.mk (H_rows.out.below hb); replace H_own := Aside0.mk (H_own.out.below hb); replace H_rnd := Aside0.mk (H_rnd.out.below hb); replace H_two0 := Aside0.mk (cell_on H_two0.out hb); replace H_two1 := Aside0.mk (cell_on H_two1.out hb); clear H_s1; replace HB := Aside0.mk (below_then HB.out HB.out.size hb); clear hb; clear HQ; go_wp2_with fail; have HQ := numbers_w H_rnd.out; rw [HS2.out] at HQ; refine (HQ).mono ?_; rintro e w5 ⟨rfl, hb⟩; replace H_rows := Aside0.mk (H_rows.out.below hb); replace H_own := Aside0.mk (H_own.out.below hb); replace H_rnd := Aside0.mk (H_rnd.out.below hb); replace H_two0 := Aside0.mk (cell_on H_two0.out hb); replace H_two1 := Aside0.mk (cell_on H_two1.out hb); replace HB := Aside0.mk (below_then HB.out HB.out.size hb); clear hb; clear HQ; go_wp2
        go_ret3
        rw [HF.out]; exact ⟨_, _, rfl, Kd.R_nil _ _ _ _ _, Kd.R_nil _ _ _ _ _, HB.out⟩
      | false =>
        have HS2 := Aside0.mk (congrArg not hq2); have hcl := cols_le hd0
        by_cases hn : random.length + 1 = colsP rows
        · skip
          have HF : Aside0 (dealQ rows owners secret random = (sharesQ rows (secret :: random), (secret :: random).map commitQ, 0)) := ⟨by unfold dealQ; rw [if_pos hd0, hq1, hq2, decide_eq_true hn]; rfl⟩
          have HL := Aside0.mk (And.intro hcl hn); have HNC := Aside0.mk hn; have HD0 := Aside0.mk hd0; have HC := Aside0.mk (fun W (g0 : Sl (Kd.slice 3 (Kd.int .i64)) W A0 c0 rows) (g1 : Sl (Kd.int .i64) W A1 c1 owners) => dealing_columns.calls A0 c0 rows A1 c1 owners (colsP rows : Int) W g0.rd g0.le g1.rd g1.le cols_math); clear hq1 hq2 hd0 hcl hn
          go_enter Try.func22, Try.ntmps22
          go_wp2_with fail
          obtain ⟨w1, hw⟩ : ∃ W_, W_ = w.alloc (.cells #[.slice A0 rows.length c0, .slice A1 owners.length c1] 25) := ⟨_, rfl⟩
          rw [← hw]
          have hb : Below w.heap.size w w1 := by rw [hw]; exact below_alloc1 _ _
          have hz : w.heap.size = w.heap.size := rfl
          have hs : w1.heap.size = w.heap.size + 1 := by rw [hw, ← hz]; simp
          replace H_rows := Aside0.mk (H_rows.out.below hb); replace H_own := Aside0.mk (H_own.out.below hb); replace H_rnd := Aside0.mk (H_rnd.out.below hb); replace HB := Aside0.mk (below_then HB.out HB.out.size hb); have H_two0 := Aside0.mk (⟨by rw [hw, ← hz]; simp only [World.cell?]; rw [World.alloc_heap_new]; rfl, by rw [hs]; omega⟩ : w1.cell? ⟨w.heap.size, 0, none⟩ = some (.slice A0 rows.length c0) ∧ w.heap.size < w1.heap.size); have H_two1 := Aside0.mk (⟨by rw [hw, ← hz]; simp only [World.cell?]; rw [World.alloc_heap_new]; rfl, by rw [hs]; omega⟩ : w1.cell? ⟨w.heap.size, 1, none⟩ = some (.slice A1 owners.length c1) ∧ w.heap.size < w1.heap.size); clear hw hb hz
          have HZ := Aside0.mk hs; clear hs
          refine (HK.out _ H_rows.out H_own.out).mono ?_; rintro e w2 ⟨rfl, hb⟩; replace H_rows := Aside0.mk (H_rows.out.below hb); replace H_own := Aside0.mk (H_own.out.below hb); replace H_rnd := Aside0.mk (H_rnd.out.below hb); replace H_two0 := Aside0.mk (cell_on H_two0.out hb); replace H_two1 := Aside0.mk (cell_on H_two1.out hb); replace HB := Aside0.mk (below_then HB.out HB.out.size hb); clear hb; go_wp2_with fail
          obtain ⟨w3, hw⟩ : ∃ W_, W_ = w2.alloc (.cells #[.int .i64 secret] 3) := ⟨_, rfl⟩
          rw [← hw]
          have hb : Below w2.heap.size w2 w3 := by rw [hw]; exact below_alloc1 _ _
          have hz : w2.heap.size = w2.heap.size := rfl
          have hs : w3.heap.size = w2.heap.size + 1 := by rw [hw, ← hz]; simp
          have hl : Sl (Kd.int .i64) w3 (some ⟨w2.heap.size, 0, none⟩) 1 [secret] := by rw [hw, ← hz]; exact Sl.ints w2 3 [secret] (by show 1 ≤ 1000000; decide)
          replace H_rows := Aside0.mk (H_rows.out.below hb); replace H_own := Aside0.mk (H_own.out.below hb); replace H_rnd := Aside0.mk (H_rnd.out.below hb); replace H_two0 := Aside0.mk (cell_on H_two0.out hb); replace H_two1 := Aside0.mk (cell_on H_two1.out hb); replace HB := Aside0.mk (below_then HB.out HB.out.size hb)
          have H_s1 := Aside0.mk hl; clear hl
          clear hw hb hz
          have HZ := Aside0.mk hs; clear hs
          have HQ := numbers_w H_s1.out; rw [HS1.out] at HQ; refine (HQ).mono ?_; rintro e w4 ⟨rfl, hb⟩; replace H_rows := Aside0.mk (H_rows.out.below hb); replace H_own := Aside0.mk (H_own.out.below hb); replace H_rnd := Aside0.mk (H_rnd.out.below hb); replace H_two0 := Aside0.mk (cell_on H_two0.out hb); replace H_two1 := Aside0.mk (cell_on H_two1.out hb); clear H_s1; replace HB := Aside0.mk (below_then HB.out HB.out.size hb); clear hb; clear HQ; go_wp2_with fail; have HQ := numbers_w H_rnd.out; rw [HS2.out] at HQ; refine (HQ).mono ?_; rintro e w5 ⟨rfl, hb⟩; replace H_rows := Aside0.mk (H_rows.out.below hb); replace H_own := Aside0.mk (H_own.out.below hb); replace H_rnd := Aside0.mk (H_rnd.out.below hb); replace H_two0 := Aside0.mk (cell_on H_two0.out hb); replace H_two1 := Aside0.mk (cell_on H_two1.out hb); replace HB := Aside0.mk (below_then HB.out HB.out.size hb); clear hb; clear HQ; have q1 : ((random.length : Int) != wrap64 ((colsP rows : Int) - 1)) = false := bne_eq_false_iff_eq.mpr (by have := HL.out; unfold wrap64; omega); have q2 : ((random.length : Int) == wrap64 ((colsP rows : Int) - 1)) = true := beq_iff_eq.mpr (by have := HL.out; unfold wrap64; omega); generalize colsP rows = n at HC HL q1 q2; have x_two0 := H_two0.out.1; have x_two1 := H_two1.out.1; go_wp2_with fail; clear x_two0 x_two1; refine (HC.out _ H_rows.out H_own.out).mono ?_; rintro e w6 ⟨rfl, hb⟩; replace H_rows := Aside0.mk (H_rows.out.below hb); clear H_own; replace H_rnd := Aside0.mk (H_rnd.out.below hb); replace H_two0 := Aside0.mk (cell_on H_two0.out hb); clear H_two1; replace HB := Aside0.mk (below_then HB.out HB.out.size hb); clear hb; clear HC; go_wp2_with fail; clear q1 q2
          obtain ⟨w7, hw⟩ : ∃ W_, W_ = w6.alloc (.cells #[.int .i64 secret] 3) := ⟨_, rfl⟩
          rw [← hw]
          have hb : Below w6.heap.size w6 w7 := by rw [hw]; exact below_alloc1 _ _
          have hz : w6.heap.size = w6.heap.size := rfl
          have hs : w7.heap.size = w6.heap.size + 1 := by rw [hw, ← hz]; simp
          have hl : Sl (Kd.int .i64) w7 (some ⟨w6.heap.size, 0, none⟩) 1 [secret] := by rw [hw, ← hz]; exact Sl.ints w6 3 [secret] (by show 1 ≤ 1000000; decide)
          replace H_rows := Aside0.mk (H_rows.out.below hb); replace H_rnd := Aside0.mk (H_rnd.out.below hb); replace H_two0 := Aside0.mk (cell_on H_two0.out hb); replace HB := Aside0.mk (below_then HB.out HB.out.size hb)
          have H_s1 := Aside0.mk hl; clear hl
          clear hw hb hz
          have HZ := Aside0.mk hs; clear hs
          obtain ⟨w8, hw⟩ : ∃ W_, W_ = w7.alloc (.cells #[.slice (some ⟨w6.heap.size, 0, none⟩) 1 1, .slice A2 random.length c2] 23) := ⟨_, rfl⟩
          rw [← hw]
          have hb : Below w7.heap.size w7 w8 := by rw [hw]; exact below_alloc1 _ _
          have hz : w7.heap.size = w6.heap.size + 1 := HZ.out
          have hs : w8.heap.size = w6.heap.size + 1 + 1 := by rw [hw, ← hz]; simp
          have hl : Sl (Kd.slice 3 (Kd.int .i64)) w8 (some ⟨w6.heap.size + 1, 0, none⟩) 2 [[secret], random] := by rw [hw, ← hz]; exact Sl.rows w7 23 3 [.slice (some ⟨w6.heap.size, 0, none⟩) 1 1, .slice A2 random.length c2] [[secret], random] (.cons (SlAt.mk_ H_s1.out) (.cons (SlAt.mk_ H_rnd.out) SlsAt.nil)) (by show 2 ≤ 1000000; decide)
          replace H_rows := Aside0.mk (H_rows.out.below hb); replace H_rnd := Aside0.mk (H_rnd.out.below hb); replace H_two0 := Aside0.mk (cell_on H_two0.out hb); replace H_s1 := Aside0.mk (H_s1.out.below hb); replace HB := Aside0.mk (below_then HB.out HB.out.size hb)
          have H_both := Aside0.mk hl; clear hl
          clear hw hb hz
          have HZ := Aside0.mk hs; clear hs
          refine (slices_Concat_int_int.calls _ _ [[secret], random] (secret :: random) _ H_both.out.rd H_both.out.le (by unfold slices_Concat_int_int.f; rw [if_pos (by have := HL.out; simp [sizesOf]; omega)]; simp)).mono ?_; rintro e w9 ⟨v5, rfl, h5, hb⟩; replace H_rows := Aside0.mk (H_rows.out.below hb); clear H_rnd; replace H_two0 := Aside0.mk (cell_on H_two0.out hb); clear H_s1; clear H_both; replace HB := Aside0.mk (below_then HB.out HB.out.size hb); obtain ⟨As, cs, rfl, hs⟩ := Sl.ofR h5; have H_s := Aside0.mk hs; clear hb h5 hs
          obtain ⟨s, hsd⟩ : ∃ s, s = secret :: random := ⟨_, rfl⟩
          rw [← hsd] at H_s HF ⊢
          have HSL : Aside0 (s.length = n ∧ n ≤ 64) := ⟨by rw [hsd, List.length_cons]; have := HL.out; omega⟩
          have HROW : Aside0 (∀ i, i < rows.length → (rows.getD i []).length ≤ s.length) := ⟨fun i hi => deal_row HD0.out HNC.out hsd hi⟩
          clear hsd
          obtain ⟨Wa, hWa⟩ : ∃ W_, W_ = w9 := ⟨_, rfl⟩
          rw [← hWa] at H_rows H_s H_two0 HB ⊢; clear hWa; have x0 := H_two0.out.1; go_wp2_with fail; clear x0
          go_loopg [6, 47] rows.length (fun gk v6 v47 wr => ∃ i : Nat, i ≤ rows.length ∧ gk = rows.length - i ∧ v47 = .int .i64 (i : Int) ∧ Aside0 (Kd.R k38 38 wr Wa.heap.size (fun k_ => Wa.heap.size ≤ k_) v6 ((List.range i).map (shareQ rows s)) ∧ Below Wa.heap.size Wa wr))
          case atStart => exact ⟨0, Nat.zero_le _, rfl, rfl, ⟨Kd.R_nil _ _ _ _ _, Below.refl _ _⟩⟩
          case round =>
            obtain ⟨i, hi, rfl, rfl, HX⟩ := hrel
            by_cases hlt : i < rows.length
            · have d1 : decide ((i : Int) < (rows.length : Int)) = true := decide_eq_true (by omega)
              have d2 : decide (i < rows.length) = true := decide_eq_true hlt
              have d3 : (0 : Int) ≤ (i : Int) := by omega
              obtain ⟨ar, Ar, cr, e, z1, z2, z3⟩ := at_L1 H_rows.out.rd (i : Int) (by omega) (by omega); cases e; rw [rd_L1_nat] at z1 z2 z3; rw [Int.toNat_natCast] at z1; have hbx := HX.out.2; replace z1 := (hbx.cell (World.block_lt_of_cell? Wa _ z1)).trans z1; replace z3 := Kd.C_below z3 hbx; have hss := H_s.out.below hbx
              have hT := fun W (hb : Below wr.heap.size wr W) => dealing_times.calls Ar cr (rows.getD i []) As cs s (Sig.dot (rows.getD i []) s % 1073741789) W (Kd.C_below z3 hb) z2 (Kd.C_below hss.rd hb) hss.le (by unfold dealing_times.f; rw [if_pos (HROW.out i hlt)])
              have hsh : (List.range i).map (shareQ rows s) ++ [⟨(i : Int), Sig.dot (rows.getD i []) s % 1073741789⟩] = (List.range (i + 1)).map (shareQ rows s) := by rw [List.range_succ, List.map_append]; rfl
              have hlen : ((List.range i).map (shareQ rows s)).length = i := by simp
              have hrl : rows.length ≤ 64 := (check_ok HD0.out).few
              have HT := Aside0.mk hT; have HSH := Aside0.mk hsh; have HO := Aside0.mk HX.out.1; have HBX := Aside0.mk hbx; have HLEN := Aside0.mk hlen; have HRL := Aside0.mk hrl
              generalize Sig.dot (rows.getD i []) s % 1073741789 = y at HT HSH; generalize (List.range i).map (shareQ rows s) = acc at HO HSH HLEN; generalize (rows.getD i []).length = rl at z1 HT; clear hT z2 z3 hss hbx hsh hlen HX hrl; obtain ⟨vA, vc, rfl⟩ := Kd.R_slice HO.out; go_wp2_with fail; refine (HT.out _ (Below.refl _ _)).mono ?_; rintro e wb ⟨rfl, hb⟩; have HO2 := Aside0.mk (Kd.R_below HO.out hb); have HBB := Aside0.mk (below_then HBX.out HBX.out.size hb); clear hb z1 HT HO HBX; go_wp2_with (at_builtin; refine Kd.R_append k38 (w0 := Wa) Wa.heap.size rfl (.tmp 52) (.tmp 58) 26 38 (.agg #[.int .i64 0, .int .i64 0]) 16 rfl (by kernel_rfl) (by kernel_rfl) rfl (by decide) (by decide) (.slice vA acc.length vc) acc ⟨(i : Int), y⟩ [.int .i64 (i : Int), .int .i64 y] (fun k_ => Wa.heap.size ≤ k_) (fun _ => False) rfl rfl (k38_mkM _ _ _ ⟨(i : Int), y⟩) (fun _ hk => hk.elim) (fun k hk => Nat.le_trans HBB.out.size hk) HO2.out HBB.out HBB.out.size (by have := HLEN.out; have := HRL.out; omega) ?_; intro v1 wc ho hbc hg hat; have HO3 := Aside0.mk ho; have HB3 := Aside0.mk hbc; clear ho hbc hg hat)
              go_roundg (rows.length - (i + 1))
              case measure => omega
              case rel => exact ⟨i + 1, by omega, rfl, by first | rfl | rw [wrap_succ (by have := HRL.out; omega)], ⟨by rw [← HSH.out]; exact HO3.out, HB3.out⟩⟩
            · obtain rfl : i = rows.length := by omega
              have d1 : decide ((rows.length : Int) < (rows.length : Int)) = false := decide_eq_false (by omega); have HO := Aside0.mk (show Kd.R k38 38 wr Wa.heap.size (fun k_ => Wa.heap.size ≤ k_) _ (sharesQ rows s) from HX.out.1); have H_s2 := Aside0.mk (H_s.out.below HX.out.2); have HB2 := Aside0.mk (below_then HB.out HB.out.size HX.out.2); have HGE := Aside0.mk (Nat.le_trans HB.out.size HX.out.2.size); have HGE0 := Aside0.mk HB.out.size; clear H_s H_rows HB H_two0 HX HROW; obtain ⟨vA, vc, rfl⟩ := Kd.R_slice HO.out; generalize wr = Wb at HO H_s2 HB2 HGE HGE0 ⊢; go_wp2_with fail
              go_loopg [6, 7, 63] s.length (fun gk v6 v7 v63 wq => v6 = .slice vA (sharesQ rows s).length vc ∧ ∃ j : Nat, j ≤ s.length ∧ gk = s.length - j ∧ v63 = .int .i64 (j : Int) ∧ Aside0 (Kd.R (Kd.int .i64) 3 wq Wb.heap.size (fun k_ => Wb.heap.size ≤ k_) v7 ((s.take j).map commitQ) ∧ Below Wb.heap.size Wb wq))
              case atStart => exact ⟨rfl, 0, Nat.zero_le _, rfl, rfl, ⟨Kd.R_nil _ _ _ _ _, Below.refl _ _⟩⟩
              case round =>
                obtain ⟨rfl, j, hj, rfl, rfl, HX⟩ := hrel
                by_cases hlt : j < s.length
                · have e1 : decide ((j : Int) < (s.length : Int)) = true := decide_eq_true (by omega)
                  have e2 : decide (j < s.length) = true := decide_eq_true hlt
                  have e3 : (0 : Int) ≤ (j : Int) := by omega
                  obtain ⟨as_, e, y1⟩ := Kd.at_int H_s2.out.rd (j : Int) (by omega) (by omega); cases e; rw [rd_nat, Int.toNat_natCast] at y1; replace y1 := (HX.out.2.cell (World.block_lt_of_cell? _ _ y1)).trans y1
                  have htk : (s.take j).map commitQ ++ [commitQ (s.getD j 0)] = (s.take (j + 1)).map commitQ := by rw [List.take_succ_eq_append_getElem hlt, List.map_append, List.getD_eq_getElem?_getD, List.getElem?_eq_getElem hlt]; rfl
                  have hlen : ((s.take j).map commitQ).length = j := by rw [List.length_map, List.length_take]; omega
                  have HTK := Aside0.mk htk; have HQ := Aside0.mk HX.out.1; have HBX := Aside0.mk HX.out.2; have HLEN := Aside0.mk hlen
                  generalize s.getD j 0 = x at y1 HTK; generalize (s.take j).map commitQ = acc at HQ HTK HLEN; clear htk hlen HX; obtain ⟨vB, vd, rfl⟩ := Kd.R_slice HQ.out; go_wp2_with fail; refine (group_Pow.calls 4 x _ _ _ (pow_four x)).mono ?_; rintro e wb ⟨rfl, hb⟩; have HQ2 := Aside0.mk (Kd.R_below HQ.out hb); have HBB := Aside0.mk (below_then HBX.out HBX.out.size hb); clear hb y1 HQ HBX; generalize commitQ x = y at HTK ⊢; go_wp2_with (at_builtin; refine Kd.R_append (Kd.int .i64) (w0 := Wb) Wb.heap.size rfl (.tmp 75) (.tmp 77) 23 3 (.int .i64 0) 8 rfl (by kernel_rfl) (by kernel_rfl) rfl (by decide) (by decide) (.slice vB acc.length vd) acc y [.int .i64 y] (fun k_ => Wb.heap.size ≤ k_) (fun _ => False) rfl rfl rfl (fun _ hk => hk.elim) (fun k hk => Nat.le_trans HBB.out.size hk) HQ2.out HBB.out HBB.out.size (by have := HLEN.out; have := HSL.out; omega) ?_; intro v1 wc ho hbc hg hat; have HQ3 := Aside0.mk ho; have HB3 := Aside0.mk hbc; clear ho hbc hg hat)
                  go_roundg (s.length - (j + 1))
                  case measure => omega
                  case rel => exact ⟨rfl, j + 1, by omega, rfl, by first | rfl | rw [wrap_succ (by have := HSL.out; omega)], ⟨by rw [← HTK.out]; exact HQ3.out, HB3.out⟩⟩
                · obtain rfl : j = s.length := by omega
                  have e1 : decide ((s.length : Int) < (s.length : Int)) = false := decide_eq_false (by omega); have hx := HX.out.1; rw [List.take_length] at hx
                  have HQ := Aside0.mk hx; have HBX := Aside0.mk HX.out.2; clear hx HX
                  obtain ⟨vB, vd, rfl⟩ := Kd.R_slice HQ.out; go_wp2
                  go_ret3
                  rw [HF.out]; exact ⟨_, _, rfl, Kd.R_mono (Kd.R_lower (Kd.R_below HO.out HBX.out) HGE0.out) (fun k hk => Nat.le_trans HGE0.out hk), Kd.R_mono (Kd.R_lower HQ.out HGE.out) (fun k hk => Nat.le_trans HGE.out hk), below_then HB2.out HB2.out.size HBX.out⟩
        · skip
          have HF : Aside0 (dealQ rows owners secret random = ([], [], 1)) := ⟨by unfold dealQ; rw [if_pos hd0, hq1, hq2, decide_eq_false hn]; rfl⟩
          have HC := Aside0.mk (fun W (g0 : Sl (Kd.slice 3 (Kd.int .i64)) W A0 c0 rows) (g1 : Sl (Kd.int .i64) W A1 c1 owners) => dealing_columns.calls A0 c0 rows A1 c1 owners (colsP rows : Int) W g0.rd g0.le g1.rd g1.le cols_math); have HL := Aside0.mk (And.intro hcl hn); clear hq1 hq2 hd0 hcl hn
          go_enter Try.func22, Try.ntmps22
          go_wp2_with fail
          obtain ⟨w1, hw⟩ : ∃ W_, W_ = w.alloc (.cells #[.slice A0 rows.length c0, .slice A1 owners.length c1] 25) := ⟨_, rfl⟩
          rw [← hw]
          have hb : Below w.heap.size w w1 := by rw [hw]; exact below_alloc1 _ _
          have hz : w.heap.size = w.heap.size := rfl
          have hs : w1.heap.size = w.heap.size + 1 := by rw [hw, ← hz]; simp
          replace H_rows := Aside0.mk (H_rows.out.below hb); replace H_own := Aside0.mk (H_own.out.below hb); replace H_rnd := Aside0.mk (H_rnd.out.below hb); replace HB := Aside0.mk (below_then HB.out HB.out.size hb); have H_two0 := Aside0.mk (⟨by rw [hw, ← hz]; simp only [World.cell?]; rw [World.alloc_heap_new]; rfl, by rw [hs]; omega⟩ : w1.cell? ⟨w.heap.size, 0, none⟩ = some (.slice A0 rows.length c0) ∧ w.heap.size < w1.heap.size); have H_two1 := Aside0.mk (⟨by rw [hw, ← hz]; simp only [World.cell?]; rw [World.alloc_heap_new]; rfl, by rw [hs]; omega⟩ : w1.cell? ⟨w.heap.size, 1, none⟩ = some (.slice A1 owners.length c1) ∧ w.heap.size < w1.heap.size); clear hw hb hz
          have HZ := Aside0.mk hs; clear hs
          refine (HK.out _ H_rows.out H_own.out).mono ?_; rintro e w2 ⟨rfl, hb⟩; replace H_rows := Aside0.mk (H_rows.out.below hb); replace H_own := Aside0.mk (H_own.out.below hb); replace H_rnd := Aside0.mk (H_rnd.out.below hb); replace H_two0 := Aside0.mk (cell_on H_two0.out hb); replace H_two1 := Aside0.mk (cell_on H_two1.out hb); replace HB := Aside0.mk (below_then HB.out HB.out.size hb); clear hb; go_wp2_with fail
          obtain ⟨w3, hw⟩ : ∃ W_, W_ = w2.alloc (.cells #[.int .i64 secret] 3) := ⟨_, rfl⟩
          rw [← hw]
          have hb : Below w2.heap.size w2 w3 := by rw [hw]; exact below_alloc1 _ _
          have hz : w2.heap.size = w2.heap.size := rfl
          have hs : w3.heap.size = w2.heap.size + 1 := by rw [hw, ← hz]; simp
          have hl : Sl (Kd.int .i64) w3 (some ⟨w2.heap.size, 0, none⟩) 1 [secret] := by rw [hw, ← hz]; exact Sl.ints w2 3 [secret] (by show 1 ≤ 1000000; decide)
          replace H_rows := Aside0.mk (H_rows.out.below hb); replace H_own := Aside0.mk (H_own.out.below hb); replace H_rnd := Aside0.mk (H_rnd.out.below hb); replace H_two0 := Aside0.mk (cell_on H_two0.out hb); replace H_two1 := Aside0.mk (cell_on H_two1.out hb); replace HB := Aside0.mk (below_then HB.out HB.out.size hb)
          have H_s1 := Aside0.mk hl; clear hl
          clear hw hb hz
          have HZ := Aside0.mk hs; clear hs
          have HQ := numbers_w H_s1.out; rw [HS1.out] at HQ; refine (HQ).mono ?_; rintro e w4 ⟨rfl, hb⟩; replace H_rows := Aside0.mk (H_rows.out.below hb); replace H_own := Aside0.mk (H_own.out.below hb); replace H_rnd := Aside0.mk (H_rnd.out.below hb); replace H_two0 := Aside0.mk (cell_on H_two0.out hb); replace H_two1 := Aside0.mk (cell_on H_two1.out hb); clear H_s1; replace HB := Aside0.mk (below_then HB.out HB.out.size hb); clear hb; clear HQ; go_wp2_with fail; have HQ := numbers_w H_rnd.out; rw [HS2.out] at HQ; refine (HQ).mono ?_; rintro e w5 ⟨rfl, hb⟩; replace H_rows := Aside0.mk (H_rows.out.below hb); replace H_own := Aside0.mk (H_own.out.below hb); replace H_rnd := Aside0.mk (H_rnd.out.below hb); replace H_two0 := Aside0.mk (cell_on H_two0.out hb); replace H_two1 := Aside0.mk (cell_on H_two1.out hb); replace HB := Aside0.mk (below_then HB.out HB.out.size hb); clear hb; clear HQ; have q1 : ((random.length : Int) != wrap64 ((colsP rows : Int) - 1)) = true := bne_iff_ne.mpr (by have := HL.out; unfold wrap64; omega); have q2 : ((random.length : Int) == wrap64 ((colsP rows : Int) - 1)) = false := beq_eq_false_iff_ne.mpr (by have := HL.out; unfold wrap64; omega); generalize colsP rows = n at HC HL q1 q2; have x_two0 := H_two0.out.1; have x_two1 := H_two1.out.1; go_wp2_with fail; clear x_two0 x_two1; refine (HC.out _ H_rows.out H_own.out).mono ?_; rintro e w6 ⟨rfl, hb⟩; replace H_rows := Aside0.mk (H_rows.out.below hb); replace H_own := Aside0.mk (H_own.out.below hb); replace H_rnd := Aside0.mk (H_rnd.out.below hb); replace H_two0 := Aside0.mk (cell_on H_two0.out hb); replace H_two1 := Aside0.mk (cell_on H_two1.out hb); replace HB := Aside0.mk (below_then HB.out HB.out.size hb); clear hb; go_wp2
          go_ret3
          rw [HF.out]; exact ⟨_, _, rfl, Kd.R_nil _ _ _ _ _, Kd.R_nil _ _ _ _ _, HB.out⟩
  · skip
    have HF : Aside0 (dealQ rows owners secret random = ([], [], t)) := ⟨by unfold dealQ; rw [← ht, if_neg h]⟩
    clear ht; have q1 : (t == 0) = false := beq_eq_false_iff_ne.mpr h; have q2 : (t != 0) = true := bne_iff_ne.mpr h
    go_enter Try.func22, Try.ntmps22
    go_wp2_with fail
    obtain ⟨w1, hw⟩ : ∃ W_, W_ = w.alloc (.cells #[.slice A0 rows.length c0, .slice A1 owners.length c1] 25) := ⟨_, rfl⟩
    rw [← hw]
    have hb : Below w.heap.size w w1 := by rw [hw]; exact below_alloc1 _ _
    have hz : w.heap.size = w.heap.size := rfl
    have hs : w1.heap.size = w.heap.size + 1 := by rw [hw, ← hz]; simp
    replace H_rows := Aside0.mk (H_rows.out.below hb); replace H_own := Aside0.mk (H_own.out.below hb); replace H_rnd := Aside0.mk (H_rnd.out.below hb); replace HB := Aside0.mk (below_then HB.out HB.out.size hb); have H_two0 := Aside0.mk (⟨by rw [hw, ← hz]; simp only [World.cell?]; rw [World.alloc_heap_new]; rfl, by rw [hs]; omega⟩ : w1.cell? ⟨w.heap.size, 0, none⟩ = some (.slice A0 rows.length c0) ∧ w.heap.size < w1.heap.size); have H_two1 := Aside0.mk (⟨by rw [hw, ← hz]; simp only [World.cell?]; rw [World.alloc_heap_new]; rfl, by rw [hs]; omega⟩ : w1.cell? ⟨w.heap.size, 1, none⟩ = some (.slice A1 owners.length c1) ∧ w.heap.size < w1.heap.size); clear hw hb hz
    have HZ := Aside0.mk hs; clear hs
    refine (HK.out _ H_rows.out H_own.out).mono ?_; rintro e w2 ⟨rfl, hb⟩; replace H_rows := Aside0.mk (H_rows.out.below hb); replace H_own := Aside0.mk (H_own.out.below hb); replace H_rnd := Aside0.mk (H_rnd.out.below hb); replace H_two0 := Aside0.mk (cell_on H_two0.out hb); replace H_two1 := Aside0.mk (cell_on H_two1.out hb); replace HB := Aside0.mk (below_then HB.out HB.out.size hb); clear hb; go_wp2
    go_ret3
    rw [HF.out]; exact ⟨_, _, rfl, Kd.R_nil _ _ _ _ _, Kd.R_nil _ _ _ _ _, HB.out⟩
end Go.Proofs.Ytdbamhckgaoibaa.P
namespace Go.Proofs.Ytdbamhckgaoibaa.P
open Go.RowKit Go.Proofs.YtdbamhckgaoibaaW.PrintWords Go.Proofs.YtdbamhckgaoibaaW.PrintLast Go.Proofs.YtdbamhckgaoibaaW.PrintMore
theorem deal_good {rows : List (List Int)} {owners : List Int} {secret : Int} {random : List Int} (hc : checkP rows owners = 0) (hs : inQ secret = true) (hr : random.any outQ = false) (hl : random.length + 1 = colsP rows) :
    dealQ rows owners secret random = (sharesQ rows (secret :: random), (secret :: random).map commitQ, 0) := by
  unfold dealQ
  rw [if_pos hc, hs, hr, decide_eq_true hl]; rfl
theorem deal_odd {rows : List (List Int)} {owners : List Int} {secret : Int} {random : List Int} (hc : checkP rows owners = 0) (hs : inQ secret = false) : dealQ rows owners secret random = ([], [], 1) := by
  unfold dealQ
  rw [if_pos hc, hs]; rfl
theorem noEl_commit (s : List Int) : (s.map commitQ).any noEl = false := by
  rw [List.any_eq_false]; intro x hx; obtain ⟨n, _, rfl⟩ := List.mem_map.1 hx; unfold noEl
  rw [commitQ_el]; decide
theorem check_dealt {rows : List (List Int)} {owners : List Int} {s : List Int} (hc : checkP rows owners = 0) (hl : s.length = colsP rows) : checkD rows owners (s.map commitQ) = 0 := by
  unfold checkD; rw [if_pos hc, if_pos ⟨by rw [List.length_map, hl], noEl_commit s⟩]
theorem pub_dealt : ∀ (s row : List Int) (y : Int), pubFrom (commitQ y) (s.map commitQ) row = commitQ (y + Sig.dot row s)
  | [], row, y => by
    rw [List.map_nil, Sig.dot_nil_r, Int.add_zero]
    cases row <;> rfl
  | x :: s, [], y => by rw [Sig.dot_nil_l, Int.add_zero]; rfl
  | x :: s, e :: row, y => by
    rw [List.map_cons, pubFrom, commitQ_pow, commitQ_add, pub_dealt s row, Sig.dot]
    congr 1
    rw [Int.mul_comm x e]; omega
theorem public_dealt {rows : List (List Int)} {owners : List Int} {s : List Int} (hc : checkP rows owners = 0) (hl : s.length = colsP rows) {i : Nat} (hi : i < rows.length) :
    publicD rows owners (s.map commitQ) (i : Int) = (commitQ (Sig.dot (rows.getD i []) s), 0) := by
  unfold publicD; rw [if_pos (check_dealt hc hl), if_pos ⟨by omega, by omega⟩, Int.toNat_natCast, ← commitQ_zero, pub_dealt, Int.zero_add]
theorem fits_dealt {rows : List (List Int)} {owners : List Int} {s : List Int} (hc : checkP rows owners = 0) (hl : s.length = colsP rows) {i : Nat} (hi : i < rows.length) {v : Int} (hv : inQ v = true) :
    fitsD rows owners (s.map commitQ) (i : Int) v = (commitQ v == commitQ (Sig.dot (rows.getD i []) s), 0) := by
  have hr : rightS rows.length ⟨(i : Int), v⟩ = true := by
    unfold rightS; simp only [hv, Bool.and_true]
    rw [decide_eq_true (by omega), decide_eq_true (by omega)]; rfl
  unfold fitsD
  rw [if_pos (check_dealt hc hl), hr, public_dealt hc hl hi]; rfl
end Go.Proofs.Ytdbamhckgaoibaa.P
namespace Go.Proofs.Ytdbamhckgaoibaa.P
open Go.RowKit Go.Proofs.YtdbamhckgaoibaaW.PrintWords Go.Proofs.YtdbamhckgaoibaaW.PrintLast Go.Proofs.YtdbamhckgaoibaaW.PrintMore
theorem finv_one : Sig.finv 1 = 1 := by unfold Sig.finv; rw [Int.one_pow]; rfl
def pivotG (g : Int → Int) (t : List (List Int)) (r k c : Nat) : List (List Int) :=
  let own := Sig.times (t.getD k []) (g (Sig.ent t k c))
  (((t.set k (t.getD r [])).map fun row => Sig.less row own (row.getD c 0))).set r own
def stepG (g : Int → Int) (st : List (List Int) × List Nat) (c : Nat) : List (List Int) × List Nat :=
  if Sig.find st.1 c st.2.length < st.1.length then (pivotG g st.1 st.2.length (Sig.find st.1 c st.2.length) c, st.2 ++ [c]) else st
def reduceG (g : Int → Int) (t : List (List Int)) (many : Nat) : List (List Int) × List Nat := (List.range many).foldl (stepG g) (t, [])
def combineG (g : Int → Int) (rows : List (List Int)) (target : List Int) : Option (List Int) :=
  if Sig.fits (reduceG g (Sig.turned rows target) rows.length).1 (reduceG g (Sig.turned rows target) rows.length).2.length rows.length then
    some (Sig.combY (reduceG g (Sig.turned rows target) rows.length).1 (reduceG g (Sig.turned rows target) rows.length).2 rows.length) else none
def inv1 (x : Int) : Int := if x = 1 then 1 else Sig.finv x
theorem inv1_eq : inv1 = Sig.finv := funext fun x => by
  unfold inv1
  split
  · rename_i h; subst h; exact finv_one.symm
  · rfl
theorem combine_inv1 (rows : List (List Int)) (target : List Int) : Sig.combine rows target = combineG inv1 rows target := by rw [inv1_eq]; rfl
def sameS : List S38 → List S38 → Bool
  | [], [] => true
  | a :: l, b :: m => a.f0 == b.f0 && a.f1 == b.f1 && sameS l m
  | [], _ :: _ => false
  | _ :: _, [] => false
theorem sameS_iff : ∀ (l m : List S38), sameS l m = true ↔ l = m
  | [], [] => ⟨fun _ => rfl, fun _ => rfl⟩
  | [], _ :: _ => ⟨fun h => (by cases h), fun h => (by cases h)⟩
  | _ :: _, [] => ⟨fun h => (by cases h), fun h => (by cases h)⟩
  | ⟨a0, a1⟩ :: l, ⟨b0, b1⟩ :: m => by
    simp only [sameS, Bool.and_eq_true, beq_iff_eq, List.cons.injEq, S38.mk.injEq, sameS_iff l m]
theorem sameS_length : ∀ (l m : List S38), l.length ≠ m.length → sameS l m = false := fun l m h => by
  cases e : sameS l m with
  | false => rfl
  | true => exact absurd (congrArg List.length ((sameS_iff l m).1 e)) h
theorem rdT_nat (l : List S38) (i : Nat) (h : i < l.length) : rd_T38 l (i : Int) = l[i] := by
  unfold rd_T38; rw [Int.toNat_natCast, List.getD_eq_getElem?_getD, List.getElem?_eq_getElem h]; rfl
theorem same_l0 (l m : List S38) (hl : l.length < 1000000) (he : l.length = m.length) (k : Nat) : ∀ d j, l.length - j = d → j ≤ l.length → signatoryref34_Same.l0 (k + d + 1) l m (j : Int) = some (sameS (l.drop j) (m.drop j)) := by
  intro d
  induction d with
  | zero =>
    intro j hd hj
    obtain rfl : j = l.length := by omega
    rw [signatoryref34_Same.l0, if_neg (by omega), List.drop_length, he, List.drop_length]; rfl
  | succ d ih =>
    intro j hd hj
    have h1 : j < l.length := by omega
    have h2 : j < m.length := by omega
    rw [signatoryref34_Same.l0, if_pos (by omega), if_pos (by omega), if_pos (by omega), rdT_nat l j h1, rdT_nat m j h2, List.drop_eq_getElem_cons h1, List.drop_eq_getElem_cons h2, sameS]
    cases e0 : (l[j].f0 == m[j].f0) with
    | false => simp
    | true =>
      cases e1 : (l[j].f1 == m[j].f1) with
      | false => simp
      | true =>
        rw [if_neg (by decide), wrap_succ (by omega), ← Nat.add_assoc, ih (j + 1) (by omega) (by omega)]; rfl
theorem same_math (l m : List S38) (hl : l.length < 1000000) (k : Nat) (hk : l.length < k) : signatoryref34_Same.f k l m = some (sameS l m) := by
  unfold signatoryref34_Same.f
  by_cases h : l.length = m.length
  · rw [if_pos (by omega)]
    obtain ⟨k, rfl⟩ : ∃ k', k = k' + l.length + 1 := ⟨k - l.length - 1, by omega⟩
    exact same_l0 l m hl h k l.length 0 (by omega) (by omega)
  · rw [if_neg (by omega), sameS_length l m h]
theorem cons_beq_same (a : Int) (l m : List Int) : (a :: l == a :: m) = (l == m) := by rw [List.cons_beq_cons, beq_self_eq_true, Bool.true_and]
theorem cons_beq_other {a b : Int} (h : ¬ a = b) (l m : List Int) : (a :: l == b :: m) = false := by rw [List.cons_beq_cons, beq_eq_false_iff_ne.2 h, Bool.false_and]
theorem sameI_l0 (l m : List Int) (hl : l.length < 1000000) (he : l.length = m.length) (k : Nat) : ∀ d j, l.length - j = d → j ≤ l.length → signatoryref34_SameInts.l0 (k + d + 1) l m (j : Int) = some (l.drop j == m.drop j) := by
  intro d
  induction d with
  | zero =>
    intro j hd hj
    obtain rfl : j = l.length := by omega
    rw [signatoryref34_SameInts.l0, if_neg (by omega), List.drop_length, he, List.drop_length]; rfl
  | succ d ih =>
    intro j hd hj
    have h1 : j < l.length := by omega
    have h2 : j < m.length := by omega
    have e1 : l.getD j 0 = l[j] := by rw [List.getD_eq_getElem?_getD, List.getElem?_eq_getElem h1]; rfl
    have e2 : m.getD j 0 = m[j] := by rw [List.getD_eq_getElem?_getD, List.getElem?_eq_getElem h2]; rfl
    rw [signatoryref34_SameInts.l0, if_pos (by omega), if_pos (by omega), if_pos (by omega), rd_nat, rd_nat, e1, e2, List.drop_eq_getElem_cons h1, List.drop_eq_getElem_cons h2]
    by_cases e0 : l[j] = m[j]
    · rw [if_pos e0, wrap_succ (by omega), ← Nat.add_assoc, ih (j + 1) (by omega) (by omega), e0, cons_beq_same]
    · rw [if_neg e0, cons_beq_other e0]
theorem sameI_math (l m : List Int) (hl : l.length < 1000000) (k : Nat) (hk : l.length < k) : signatoryref34_SameInts.f k l m = some (l == m) := by
  unfold signatoryref34_SameInts.f
  by_cases h : l.length = m.length
  · rw [if_pos (by omega)]
    obtain ⟨k, rfl⟩ : ∃ k', k = k' + l.length + 1 := ⟨k - l.length - 1, by omega⟩
    exact sameI_l0 l m hl h k l.length 0 (by omega) (by omega)
  · rw [if_neg (by omega)]
    have : (l == m) = false := beq_eq_false_iff_ne.2 fun e => h (congrArg List.length e)
    rw [this]
end Go.Proofs.Ytdbamhckgaoibaa.P
