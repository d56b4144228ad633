/- A part of the proof of RebuildHidden: The calls of signatoryref23.Check, signatoryref23.Columns, signatoryref34.Columns, signatoryref34.Small, signatoryref34.SameInts, signatoryref34.Same, signatory; The reference's Check says what program.Check says.; slices.Grow of nothing, slices.Concat.; dealing.Deal in plain words.; dealing.Deal, Public and Fits of what was dealt.; What comparing lists answers; and examples that the sanity functions ask, reckoned without any inverse but that of 1.; rebuild.all, sum and Part in plain words.; rebuild.Part in plain words.; rebuild.Finish in plain words. -/
import Derived.Test.YtdbamhckgaoibaaZRH4
import Derived.Deep.RegionWith
import Derived.Laws.ResultCell
namespace Go.Proofs.Ytdbamhckgaoibaa.P
open Go.RowKit Go.Proofs.YtdbamhckgaoibaaW.PrintWords Go.Proofs.YtdbamhckgaoibaaW.PrintLast Go.Proofs.YtdbamhckgaoibaaW.PrintMore
attribute [local go_sem] max2_int min2_int max_two min_two max_three min_three max_four min_four
set_option linter.unusedVariables false
set_option linter.unusedSimpArgs false
attribute [local go_sem high] eqA38
mutual
def signatoryref23_Check.l0 : Nat → Int → List (List Int) → List Int → Option (Int)
 | 0, _, _, _ => none
 | k + 1, x3, x263000, x263001 => if x3 < (x263000.length : Int) then (if 0 ≤ x3 then (if ((rd_L1 x263000 x3).length : Int) > 64 then (some 2) else (signatoryref23_Check.l0 k (wrap64 (x3 + 1)) x263000 x263001)) else (none)) else (if (x263000.length : Int) = (x263001.length : Int) then (signatoryref23_Check.l1 k 0 x263000 x263001) else (some 230))
def signatoryref23_Check.l1 : Nat → Int → List (List Int) → List Int → Option (Int)
 | 0, _, _, _ => none
 | k + 1, x4, x263000, x263001 => if x4 < (x263000.length : Int) then (if 0 ≤ x4 then (if ((rd_L1 x263000 x4).length : Int) < 1 then (signatoryref23_Check.j2 k x4 true x263000 x263001) else (if 0 < (x263000.length : Int) then (if ((rd_L1 x263000 x4).length : Int) = ((rd_L1 x263000 0).length : Int) then (if x4 < (x263001.length : Int) then (if (rd x263001 x4) < 0 then (signatoryref23_Check.j2 k x4 true x263000 x263001) else (signatoryref23_Check.j2 k x4 (decide ((rd x263001 x4) ≥ 64)) x263000 x263001)) else (none)) else (signatoryref23_Check.j2 k x4 true x263000 x263001)) else (none))) else (none)) else (some 0)
def signatoryref23_Check.j2 : Nat → Int → Bool → List (List Int) → List Int → Option (Int)
 | 0, _, _, _, _ => none
 | k + 1, x4, x74, x263000, x263001 => if x74 = true then (some 230) else (signatoryref23_Check.l2 k x4 0 x263000 x263001)
def signatoryref23_Check.l2 : Nat → Int → Int → List (List Int) → List Int → Option (Int)
 | 0, _, _, _, _ => none
 | k + 1, x4, x5, x263000, x263001 => if 0 ≤ x4 then (if x4 < (x263000.length : Int) then (if x5 < ((rd_L1 x263000 x4).length : Int) then (if 0 ≤ x5 then (if (rd (rd_L1 x263000 x4) x5) < 0 then (some 230) else (if (rd (rd_L1 x263000 x4) x5) ≥ 1073741789 then (some 230) else (signatoryref23_Check.l2 k x4 (wrap64 (x5 + 1)) x263000 x263001))) else (none)) else (signatoryref23_Check.l1 k (wrap64 (x4 + 1)) x263000 x263001)) else (none)) else (none)
end
def signatoryref23_Check.f (k : Nat) (l0_0 : List (List Int)) (l0_1 : List Int) : Option (Int) := if (l0_0.length : Int) > 64 then (some 2) else (signatoryref23_Check.l0 k 0 l0_0 l0_1)
set_option maxHeartbeats 8000000 in
set_option maxRecDepth 100000 in
theorem signatoryref23_Check.calls (k : Nat) (A0_0 : Option Addr) (c0_0 : Nat) (l0_0 : List (List Int)) (A0_1 : Option Addr) (c0_1 : Nat) (l0_1 : List Int) (r : Int) (w : World) (hr0_0 : Kd.C (Kd.slice 3 (Kd.int .i64)) w A0_0 l0_0.length l0_0) (hc0_0 : l0_0.length ≤ c0_0) (hr0_1 : Kd.C (Kd.int .i64) w A0_1 l0_1.length l0_1) (hc0_1 : l0_1.length ≤ c0_1) (h : signatoryref23_Check.f k l0_0 l0_1 = some r) :
  Calls Try.prog 58 #[.agg #[.slice A0_0 l0_0.length c0_0, .slice A0_1 l0_1.length c0_1]] w fun e w' => e = .returned (.int .i64 r) ∧ Below w.heap.size w w' := by
 have hu25 := Try.underlying25
 have HR0_0 := Aside0.mk hr0_0
 have HC0_0 := Aside0.mk hc0_0
 clear hr0_0 hc0_0
 have HR0_1 := Aside0.mk hr0_1
 have HC0_1 := Aside0.mk hc0_1
 clear hr0_1 hc0_1
 have HB := Aside0.mk (Below.refl w.heap.size w)
 have H : (if (l0_0.length : Int) > 64 then (some 2) else (signatoryref23_Check.l0 k 0 l0_0 l0_1)) = some r := h
 clear h
 by_cases c2 : (l0_0.length : Int) > 64
 ·rw [if_pos c2] at H
  have c2b0 : decide (64 < (l0_0.length : Int)) = true := decide_eq_true c2
  have c2b1 : decide (64 < l0_0.length) = true := decide_eq_true (by omega)
  clear c2
  obtain rfl := Option.some.inj H
  go_enter Try.func58, Try.ntmps58
  go_wp2_with (first | ((with_reducible refine gate_dst (N := 1) rfl ?_); (try (refine gate_guard (by rfl) ?_; dsimp only)); refine box_event ?hg (N := 1) ?hd (cs := #[.slice A0_0 l0_0.length c0_0, .slice A0_1 l0_1.length c0_1]) (t := 25) ?hr ?_; (case hd => rfl); (case hg => rfl); (case hr => first | (go_simp; done) | (go_simp; rfl)); intro gb262 hg w3 hbox hb; have n0_ := Aside0.mk (below_step (by repeat (first | (with_reducible first | exact HB.out | apply below_alloc | apply pw_below_drewN | apply below_drew1) | exact HB.out)) hb); have n1_ := Aside0.mk (hbox); have n2_ := Aside0.mk ((by rw [hg]; exact (below_size (by repeat (first | (with_reducible first | exact HB.out | apply below_alloc | apply pw_below_drewN | apply below_drew1) | exact HB.out))) : w.heap.size ≤ gb262)); have n3_ := Aside0.mk ((by rw [hg]; exact (below_size (by repeat (first | (with_reducible first | exact HB.out | apply below_alloc | apply pw_below_drewN | apply below_drew1) | exact HB.out))) : w.heap.size ≤ gb262)); clear HB; have HB := n0_; have BK262 := n1_; have GW262 := n2_; have GE262 := n3_; clear n0_ n1_ n2_ n3_; clear hb hbox hg; have hcz4_0 : w3.cell? ⟨gb262, 0, none⟩ = some (.slice A0_0 l0_0.length c0_0) := (blk_cell BK262.out 0).trans rfl; have hcz4_1 : w3.cell? ⟨gb262, 1, none⟩ = some (.slice A0_1 l0_1.length c0_1) := (blk_cell BK262.out 1).trans rfl; have hfz4_0 := blk_frozen BK262.out 0; have hfz4_1 := blk_frozen BK262.out 1))
  repeat (go_quiet (first | ((with_reducible refine gate_dst (N := 1) rfl ?_); (try (refine gate_guard (by rfl) ?_; dsimp only)); refine box_event ?hg (N := 1) ?hd (cs := #[.slice A0_0 l0_0.length c0_0, .slice A0_1 l0_1.length c0_1]) (t := 25) ?hr ?_; (case hd => rfl); (case hg => rfl); (case hr => first | (go_simp; done) | (go_simp; rfl)); intro gb262 hg w3 hbox hb; have n0_ := Aside0.mk (below_step (by repeat (first | (with_reducible first | exact HB.out | apply below_alloc | apply pw_below_drewN | apply below_drew1) | exact HB.out)) hb); have n1_ := Aside0.mk (hbox); have n2_ := Aside0.mk ((by rw [hg]; exact (below_size (by repeat (first | (with_reducible first | exact HB.out | apply below_alloc | apply pw_below_drewN | apply below_drew1) | exact HB.out))) : w.heap.size ≤ gb262)); have n3_ := Aside0.mk ((by rw [hg]; exact (below_size (by repeat (first | (with_reducible first | exact HB.out | apply below_alloc | apply pw_below_drewN | apply below_drew1) | exact HB.out))) : w.heap.size ≤ gb262)); clear HB; have HB := n0_; have BK262 := n1_; have GW262 := n2_; have GE262 := n3_; clear n0_ n1_ n2_ n3_; clear hb hbox hg; have hcz4_0 : w3.cell? ⟨gb262, 0, none⟩ = some (.slice A0_0 l0_0.length c0_0) := (blk_cell BK262.out 0).trans rfl; have hcz4_1 : w3.cell? ⟨gb262, 1, none⟩ = some (.slice A0_1 l0_1.length c0_1) := (blk_cell BK262.out 1).trans rfl; have hfz4_0 := blk_frozen BK262.out 0; have hfz4_1 := blk_frozen BK262.out 1)); try go_wp2_with (first | ((with_reducible refine gate_dst (N := 1) rfl ?_); (try (refine gate_guard (by rfl) ?_; dsimp only)); refine box_event ?hg (N := 1) ?hd (cs := #[.slice A0_0 l0_0.length c0_0, .slice A0_1 l0_1.length c0_1]) (t := 25) ?hr ?_; (case hd => rfl); (case hg => rfl); (case hr => first | (go_simp; done) | (go_simp; rfl)); intro gb262 hg w3 hbox hb; have n0_ := Aside0.mk (below_step (by repeat (first | (with_reducible first | exact HB.out | apply below_alloc | apply pw_below_drewN | apply below_drew1) | exact HB.out)) hb); have n1_ := Aside0.mk (hbox); have n2_ := Aside0.mk ((by rw [hg]; exact (below_size (by repeat (first | (with_reducible first | exact HB.out | apply below_alloc | apply pw_below_drewN | apply below_drew1) | exact HB.out))) : w.heap.size ≤ gb262)); have n3_ := Aside0.mk ((by rw [hg]; exact (below_size (by repeat (first | (with_reducible first | exact HB.out | apply below_alloc | apply pw_below_drewN | apply below_drew1) | exact HB.out))) : w.heap.size ≤ gb262)); clear HB; have HB := n0_; have BK262 := n1_; have GW262 := n2_; have GE262 := n3_; clear n0_ n1_ n2_ n3_; clear hb hbox hg; have hcz4_0 : w3.cell? ⟨gb262, 0, none⟩ = some (.slice A0_0 l0_0.length c0_0) := (blk_cell BK262.out 0).trans rfl; have hcz4_1 : w3.cell? ⟨gb262, 1, none⟩ = some (.slice A0_1 l0_1.length c0_1) := (blk_cell BK262.out 1).trans rfl; have hfz4_0 := blk_frozen BK262.out 0; have hfz4_1 := blk_frozen BK262.out 1)))
  go_ret
  exact ⟨by first | rfl | (simp [errW_none, errW_some] <;> rfl) | (simp [*, errW_none, errW_some] <;> rfl), by repeat (first | (with_reducible first | exact HB.out | apply below_alloc | apply pw_below_drewN | apply below_drew1 | refine below_set ?_ GE262.out) | exact HB.out)⟩
 ·rw [if_neg c2] at H
  have c2b0 : decide (64 < (l0_0.length : Int)) = false := decide_eq_false c2
  have c2b1 : decide (64 < l0_0.length) = false := decide_eq_false (by omega)
  clear c2
  have H' := Aside0.mk H
  clear H
  go_enter Try.func58, Try.ntmps58
  go_wp2_with (first | ((with_reducible refine gate_dst (N := 1) rfl ?_); (try (refine gate_guard (by rfl) ?_; dsimp only)); refine box_event ?hg (N := 1) ?hd (cs := #[.slice A0_0 l0_0.length c0_0, .slice A0_1 l0_1.length c0_1]) (t := 25) ?hr ?_; (case hd => rfl); (case hg => rfl); (case hr => first | (go_simp; done) | (go_simp; rfl)); intro gb262 hg w5 hbox hb; have n0_ := Aside0.mk (below_step (by repeat (first | (with_reducible first | exact HB.out | apply below_alloc | apply pw_below_drewN | apply below_drew1) | exact HB.out)) hb); have n1_ := Aside0.mk (hbox); have n2_ := Aside0.mk ((by rw [hg]; exact (below_size (by repeat (first | (with_reducible first | exact HB.out | apply below_alloc | apply pw_below_drewN | apply below_drew1) | exact HB.out))) : w.heap.size ≤ gb262)); have n3_ := Aside0.mk ((by rw [hg]; exact (below_size (by repeat (first | (with_reducible first | exact HB.out | apply below_alloc | apply pw_below_drewN | apply below_drew1) | exact HB.out))) : w.heap.size ≤ gb262)); clear HB; have HB := n0_; have BK262 := n1_; have GW262 := n2_; have GE262 := n3_; clear n0_ n1_ n2_ n3_; clear hb hbox hg; have hcz6_0 : w5.cell? ⟨gb262, 0, none⟩ = some (.slice A0_0 l0_0.length c0_0) := (blk_cell BK262.out 0).trans rfl; have hcz6_1 : w5.cell? ⟨gb262, 1, none⟩ = some (.slice A0_1 l0_1.length c0_1) := (blk_cell BK262.out 1).trans rfl; have hfz6_0 := blk_frozen BK262.out 0; have hfz6_1 := blk_frozen BK262.out 1))
  repeat (go_quiet (first | ((with_reducible refine gate_dst (N := 1) rfl ?_); (try (refine gate_guard (by rfl) ?_; dsimp only)); refine box_event ?hg (N := 1) ?hd (cs := #[.slice A0_0 l0_0.length c0_0, .slice A0_1 l0_1.length c0_1]) (t := 25) ?hr ?_; (case hd => rfl); (case hg => rfl); (case hr => first | (go_simp; done) | (go_simp; rfl)); intro gb262 hg w5 hbox hb; have n0_ := Aside0.mk (below_step (by repeat (first | (with_reducible first | exact HB.out | apply below_alloc | apply pw_below_drewN | apply below_drew1) | exact HB.out)) hb); have n1_ := Aside0.mk (hbox); have n2_ := Aside0.mk ((by rw [hg]; exact (below_size (by repeat (first | (with_reducible first | exact HB.out | apply below_alloc | apply pw_below_drewN | apply below_drew1) | exact HB.out))) : w.heap.size ≤ gb262)); have n3_ := Aside0.mk ((by rw [hg]; exact (below_size (by repeat (first | (with_reducible first | exact HB.out | apply below_alloc | apply pw_below_drewN | apply below_drew1) | exact HB.out))) : w.heap.size ≤ gb262)); clear HB; have HB := n0_; have BK262 := n1_; have GW262 := n2_; have GE262 := n3_; clear n0_ n1_ n2_ n3_; clear hb hbox hg; have hcz6_0 : w5.cell? ⟨gb262, 0, none⟩ = some (.slice A0_0 l0_0.length c0_0) := (blk_cell BK262.out 0).trans rfl; have hcz6_1 : w5.cell? ⟨gb262, 1, none⟩ = some (.slice A0_1 l0_1.length c0_1) := (blk_cell BK262.out 1).trans rfl; have hfz6_0 := blk_frozen BK262.out 0; have hfz6_1 := blk_frozen BK262.out 1)); try go_wp2_with (first | ((with_reducible refine gate_dst (N := 1) rfl ?_); (try (refine gate_guard (by rfl) ?_; dsimp only)); refine box_event ?hg (N := 1) ?hd (cs := #[.slice A0_0 l0_0.length c0_0, .slice A0_1 l0_1.length c0_1]) (t := 25) ?hr ?_; (case hd => rfl); (case hg => rfl); (case hr => first | (go_simp; done) | (go_simp; rfl)); intro gb262 hg w5 hbox hb; have n0_ := Aside0.mk (below_step (by repeat (first | (with_reducible first | exact HB.out | apply below_alloc | apply pw_below_drewN | apply below_drew1) | exact HB.out)) hb); have n1_ := Aside0.mk (hbox); have n2_ := Aside0.mk ((by rw [hg]; exact (below_size (by repeat (first | (with_reducible first | exact HB.out | apply below_alloc | apply pw_below_drewN | apply below_drew1) | exact HB.out))) : w.heap.size ≤ gb262)); have n3_ := Aside0.mk ((by rw [hg]; exact (below_size (by repeat (first | (with_reducible first | exact HB.out | apply below_alloc | apply pw_below_drewN | apply below_drew1) | exact HB.out))) : w.heap.size ≤ gb262)); clear HB; have HB := n0_; have BK262 := n1_; have GW262 := n2_; have GE262 := n3_; clear n0_ n1_ n2_ n3_; clear hb hbox hg; have hcz6_0 : w5.cell? ⟨gb262, 0, none⟩ = some (.slice A0_0 l0_0.length c0_0) := (blk_cell BK262.out 0).trans rfl; have hcz6_1 : w5.cell? ⟨gb262, 1, none⟩ = some (.slice A0_1 l0_1.length c0_1) := (blk_cell BK262.out 1).trans rfl; have hfz6_0 := blk_frozen BK262.out 0; have hfz6_1 := blk_frozen BK262.out 1)))
  go_loopg [3] k (fun kq v3 w' => ∃ (x3_1 : Int), v3 = .int .i64 x3_1 ∧ Aside0 (signatoryref23_Check.l0 kq x3_1 l0_0 l0_1 = some r) ∧ Aside0 (kq ≤ k) ∧ Aside0 (w'.heap[gb262]? = some (.cells #[(.slice A0_0 l0_0.length c0_0), (.slice A0_1 l0_1.length c0_1)] 25 (0, 0))) ∧ Aside0 (Below w.heap.size w w'))
  case atStart => exact ⟨(0), (by first | rfl | (simp; done) | (simp [*]; done)), H', ⟨Nat.le_refl _⟩, ⟨by (with_reducible repeat (first | refine blk_drewN ?_ _ | refine blk_drew ?_ | refine blk_alloc ?_ _)); exact BK262.out⟩, ⟨by repeat (first | (with_reducible first | exact HB.out | apply below_alloc | apply pw_below_drewN | apply below_drew1 | refine below_set ?_ GE262.out) | exact HB.out)⟩⟩
  case round =>
   clear H'
   try clear c2
   try clear c2b0
   try clear c2b1
   try clear p2
   try clear c5
   try clear hcz4_0
   try clear hcz4_1
   try clear hcz6_0
   try clear hcz6_1
   try clear hfz4_0
   try clear hfz4_1
   try clear hfz6_0
   try clear hfz6_1
   obtain ⟨x3_1, rfl, HA, HK1, BK262, HB⟩ := hrel
   cases gk with
   | zero => exact absurd HA.out (by simp [signatoryref23_Check.l0])
   | succ k1 =>
    have H := HA.out
    clear HA
    simp only [signatoryref23_Check.l0] at H
    by_cases c7 : x3_1 < (l0_0.length : Int)
    ·rw [if_pos c7] at H
     have c7b0 : decide (x3_1 < (l0_0.length : Int)) = true := decide_eq_true c7
     clear c7
     by_cases c8 : 0 ≤ x3_1
     ·rw [if_pos c8] at H
      have c8b0 : decide (0 ≤ x3_1) = true := decide_eq_true c8
      clear c8
      by_cases c9 : ((rd_L1 l0_0 x3_1).length : Int) > 64
      ·rw [if_pos c9] at H
       have c9b0 : decide (64 < ((rd_L1 l0_0 x3_1).length : Int)) = true := decide_eq_true c9
       have c9b1 : decide (64 < (rd_L1 l0_0 x3_1).length) = true := decide_eq_true (by omega)
       clear c9
       obtain rfl := Option.some.inj H
       have hcz10_0 : wr.cell? ⟨gb262, 0, none⟩ = some (.slice A0_0 l0_0.length c0_0) := (blk_cell BK262.out 0).trans rfl
       have hcz10_1 : wr.cell? ⟨gb262, 1, none⟩ = some (.slice A0_1 l0_1.length c0_1) := (blk_cell BK262.out 1).trans rfl
       have hfz10_0 := blk_frozen BK262.out 0
       have hfz10_1 := blk_frozen BK262.out 1
       have p263 : 0 ≤ (x3_1 : Int) := of_decide_eq_true (by first | (with_reducible assumption) | assumption)
       have q263 : x3_1 < (l0_0.length : Int) := of_decide_eq_true (by first | (with_reducible assumption) | assumption)
       obtain ⟨ad263, A263_0, c263_0, e263, hx263_0, hl263_0, hi263_0⟩ := at_L1 HR0_0.out x3_1 p263 q263
       cases e263
       replace hx263_0 := (HB.out.cell (World.block_lt_of_cell? w _ hx263_0)).trans hx263_0
       have HR263_0 := Aside0.mk hi263_0
       have HC263_0 := Aside0.mk hl263_0
       clear hi263_0 hl263_0
       replace p263 := eq_true p263
       replace q263 := eq_true q263
       go_wp2
       repeat (go_quiet (fail); try go_wp2)
       go_ret
       exact ⟨by first | rfl | (simp [errW_none, errW_some] <;> rfl) | (simp [*, errW_none, errW_some] <;> rfl), by repeat (first | (with_reducible first | exact HB.out | apply below_alloc | apply pw_below_drewN | apply below_drew1 | refine below_set ?_ GE262.out) | exact HB.out)⟩
      ·rw [if_neg c9] at H
       have c9b0 : decide (64 < ((rd_L1 l0_0 x3_1).length : Int)) = false := decide_eq_false c9
       have c9b1 : decide (64 < (rd_L1 l0_0 x3_1).length) = false := decide_eq_false (by omega)
       clear c9
       have H' := Aside0.mk H
       clear H
       have hcz11_0 : wr.cell? ⟨gb262, 0, none⟩ = some (.slice A0_0 l0_0.length c0_0) := (blk_cell BK262.out 0).trans rfl
       have hcz11_1 : wr.cell? ⟨gb262, 1, none⟩ = some (.slice A0_1 l0_1.length c0_1) := (blk_cell BK262.out 1).trans rfl
       have hfz11_0 := blk_frozen BK262.out 0
       have hfz11_1 := blk_frozen BK262.out 1
       have p263 : 0 ≤ (x3_1 : Int) := of_decide_eq_true (by first | (with_reducible assumption) | assumption)
       have q263 : x3_1 < (l0_0.length : Int) := of_decide_eq_true (by first | (with_reducible assumption) | assumption)
       obtain ⟨ad263, A263_0, c263_0, e263, hx263_0, hl263_0, hi263_0⟩ := at_L1 HR0_0.out x3_1 p263 q263
       cases e263
       replace hx263_0 := (HB.out.cell (World.block_lt_of_cell? w _ hx263_0)).trans hx263_0
       have HR263_0 := Aside0.mk hi263_0
       have HC263_0 := Aside0.mk hl263_0
       clear hi263_0 hl263_0
       replace p263 := eq_true p263
       replace q263 := eq_true q263
       go_wp2
       repeat (go_quiet (fail); try go_wp2)
       go_roundg k1
       case measure => have := HK1.out; omega
       case rel => exact ⟨(wrap64 (x3_1 + 1)), (by first | rfl | (simp; done) | (simp [*]; done)), H', ⟨by have := HK1.out; omega⟩, ⟨by (with_reducible repeat (first | refine blk_drewN ?_ _ | refine blk_drew ?_ | refine blk_alloc ?_ _)); exact BK262.out⟩, ⟨by repeat (first | (with_reducible first | exact HB.out | apply below_alloc | apply pw_below_drewN | apply below_drew1 | refine below_set ?_ GE262.out) | exact HB.out)⟩⟩
     ·rw [if_neg c8] at H
      exact absurd H (by simp)
    ·rw [if_neg c7] at H
     have c7b0 : decide (x3_1 < (l0_0.length : Int)) = false := decide_eq_false c7
     clear c7
     by_cases c12 : (l0_0.length : Int) = (l0_1.length : Int)
     ·rw [if_pos c12] at H
      have c12b0 : ((l0_0.length : Int) == (l0_1.length : Int)) = true := beq_iff_eq.mpr c12
      have c12b1 : ((l0_0.length : Int) != (l0_1.length : Int)) = false := bne_eq_false_iff_eq.mpr c12
      have c12b2 : (l0_0.length == l0_1.length) = true := by first | simpa using c12 | (simp at c12 ⊢; omega)
      clear c12
      have H' := Aside0.mk H
      clear H
      have hcz13_0 : wr.cell? ⟨gb262, 0, none⟩ = some (.slice A0_0 l0_0.length c0_0) := (blk_cell BK262.out 0).trans rfl
      have hcz13_1 : wr.cell? ⟨gb262, 1, none⟩ = some (.slice A0_1 l0_1.length c0_1) := (blk_cell BK262.out 1).trans rfl
      have hfz13_0 := blk_frozen BK262.out 0
      have hfz13_1 := blk_frozen BK262.out 1
      go_wp2
      repeat (go_quiet (fail); try go_wp2)
      go_loopg [4] k1 (fun kq v4 w' => ∃ (x4_2 : Int), v4 = .int .i64 x4_2 ∧ Aside0 (signatoryref23_Check.l1 kq x4_2 l0_0 l0_1 = some r) ∧ Aside0 (kq ≤ k1) ∧ Aside0 (w'.heap[gb262]? = some (.cells #[(.slice A0_0 l0_0.length c0_0), (.slice A0_1 l0_1.length c0_1)] 25 (0, 0))) ∧ Aside0 (Below w.heap.size w w'))
      case atStart => exact ⟨(0), (by first | rfl | (simp; done) | (simp [*]; done)), H', ⟨Nat.le_refl _⟩, ⟨by (with_reducible repeat (first | refine blk_drewN ?_ _ | refine blk_drew ?_ | refine blk_alloc ?_ _)); exact BK262.out⟩, ⟨by repeat (first | (with_reducible first | exact HB.out | apply below_alloc | apply pw_below_drewN | apply below_drew1 | refine below_set ?_ GE262.out) | exact HB.out)⟩⟩
      case round =>
       clear H'
       try clear c1
       try clear c2
       try clear c2b0
       try clear c2b1
       try clear p2
       try clear q2
       try clear hx2
       try clear c5
       try clear p6
       try clear c7
       try clear c7b0
       try clear c8
       try clear c8b0
       try clear c9
       try clear c9b0
       try clear c9b1
       try clear c12
       try clear c12b0
       try clear c12b1
       try clear c12b2
       try clear hcz10_0
       try clear hcz10_1
       try clear hcz11_0
       try clear hcz11_1
       try clear hcz13_0
       try clear hcz13_1
       try clear hcz4_0
       try clear hcz4_1
       try clear hcz6_0
       try clear hcz6_1
       try clear hfz10_0
       try clear hfz10_1
       try clear hfz11_0
       try clear hfz11_1
       try clear hfz13_0
       try clear hfz13_1
       try clear hfz4_0
       try clear hfz4_1
       try clear hfz6_0
       try clear hfz6_1
       try clear hx263_0
       try clear p2
       try clear p263
       try clear q263
       obtain ⟨x4_2, rfl, HA, HK2, BK262, HB⟩ := hrel
       cases gk with
       | zero => exact absurd HA.out (by simp [signatoryref23_Check.l1])
       | succ k2 =>
        have H := HA.out
        clear HA
        simp only [signatoryref23_Check.l1] at H
        by_cases c14 : x4_2 < (l0_0.length : Int)
        ·rw [if_pos c14] at H
         have c14b0 : decide (x4_2 < (l0_0.length : Int)) = true := decide_eq_true c14
         clear c14
         have HC15 := Aside0.mk H
         clear H
         have hcz16_0 : wr.cell? ⟨gb262, 0, none⟩ = some (.slice A0_0 l0_0.length c0_0) := (blk_cell BK262.out 0).trans rfl
         have hcz16_1 : wr.cell? ⟨gb262, 1, none⟩ = some (.slice A0_1 l0_1.length c0_1) := (blk_cell BK262.out 1).trans rfl
         have hfz16_0 := blk_frozen BK262.out 0
         have hfz16_1 := blk_frozen BK262.out 1
         go_upto_region 13 with (fail)
         repeat (go_quiet (fail); go_upto_region 13 with (fail))
         go_cut [74] (fun v74 wc => ∃ (kq : Nat) (x74_14 : Bool), v74 = .bool x74_14 ∧ Aside0 (signatoryref23_Check.j2 kq x4_2 x74_14 l0_0 l0_1 = some r) ∧ Aside0 (kq ≤ k2) ∧ Aside0 (wc.heap[gb262]? = some (.cells #[(.slice A0_0 l0_0.length c0_0), (.slice A0_1 l0_1.length c0_1)] 25 (0, 0))) ∧ Aside0 (Below w.heap.size w wc))
         case first =>
          have H := HC15.out
          clear HC15
          by_cases c17 : 0 ≤ x4_2
          ·rw [if_pos c17] at H
           have c17b0 : decide (0 ≤ x4_2) = true := decide_eq_true c17
           clear c17
           (first | rw [c17b0] | (simp only [i64_w, i32_w]; rw [c17b0]) | skip)
           by_cases c18 : ((rd_L1 l0_0 x4_2).length : Int) < 1
           ·rw [if_pos c18] at H
            have c18b0 : decide (((rd_L1 l0_0 x4_2).length : Int) < 1) = true := decide_eq_true c18
            have c18b1 : decide ((rd_L1 l0_0 x4_2).length < 1) = true := decide_eq_true (by omega)
            clear c18
            have H' := Aside0.mk H
            clear H
            have hcz19_0 : wr.cell? ⟨gb262, 0, none⟩ = some (.slice A0_0 l0_0.length c0_0) := (blk_cell BK262.out 0).trans rfl
            have hcz19_1 : wr.cell? ⟨gb262, 1, none⟩ = some (.slice A0_1 l0_1.length c0_1) := (blk_cell BK262.out 1).trans rfl
            have hfz19_0 := blk_frozen BK262.out 0
            have hfz19_1 := blk_frozen BK262.out 1
            have p264 : 0 ≤ (x4_2 : Int) := of_decide_eq_true (by first | (with_reducible assumption) | assumption)
            have q264 : x4_2 < (l0_0.length : Int) := of_decide_eq_true (by first | (with_reducible assumption) | assumption)
            obtain ⟨ad264, A264_0, c264_0, e264, hx264_0, hl264_0, hi264_0⟩ := at_L1 HR0_0.out x4_2 p264 q264
            cases e264
            replace hx264_0 := (HB.out.cell (World.block_lt_of_cell? w _ hx264_0)).trans hx264_0
            have HR264_0 := Aside0.mk hi264_0
            have HC264_0 := Aside0.mk hl264_0
            clear hi264_0 hl264_0
            replace p264 := eq_true p264
            replace q264 := eq_true q264
            go_wp2
            repeat (go_quiet (fail); try go_wp2)
            go_meet
            case rel => exact ⟨_, (true), (by first | rfl | (simp; done) | (simp [*]; done)), H', ⟨by have := HK1.out; have := HK2.out; first | omega | exact Nat.le_refl _⟩, ⟨by (with_reducible repeat (first | refine blk_drewN ?_ _ | refine blk_drew ?_ | refine blk_alloc ?_ _)); exact BK262.out⟩, ⟨by repeat (first | (with_reducible first | exact HB.out | apply below_alloc | apply pw_below_drewN | apply below_drew1 | refine below_set ?_ GE262.out) | exact HB.out)⟩⟩
           ·rw [if_neg c18] at H
            have c18b0 : decide (((rd_L1 l0_0 x4_2).length : Int) < 1) = false := decide_eq_false c18
            have c18b1 : decide ((rd_L1 l0_0 x4_2).length < 1) = false := decide_eq_false (by omega)
            clear c18
            by_cases c20 : 0 < (l0_0.length : Int)
            ·rw [if_pos c20] at H
             have c20b0 : decide (0 < (l0_0.length : Int)) = true := decide_eq_true c20
             have c20b1 : decide (0 < l0_0.length) = true := decide_eq_true (by omega)
             clear c20
             by_cases c21 : ((rd_L1 l0_0 x4_2).length : Int) = ((rd_L1 l0_0 0).length : Int)
             ·rw [if_pos c21] at H
              have c21b0 : (((rd_L1 l0_0 x4_2).length : Int) == ((rd_L1 l0_0 0).length : Int)) = true := beq_iff_eq.mpr c21
              have c21b1 : (((rd_L1 l0_0 x4_2).length : Int) != ((rd_L1 l0_0 0).length : Int)) = false := bne_eq_false_iff_eq.mpr c21
              have c21b2 : ((rd_L1 l0_0 x4_2).length == (rd_L1 l0_0 0).length) = true := by first | simpa using c21 | (simp at c21 ⊢; omega)
              clear c21
              by_cases c22 : x4_2 < (l0_1.length : Int)
              ·rw [if_pos c22] at H
               have c22b0 : decide (x4_2 < (l0_1.length : Int)) = true := decide_eq_true c22
               clear c22
               by_cases c23 : (rd l0_1 x4_2) < 0
               ·rw [if_pos c23] at H
                have c23b0 : decide ((rd l0_1 x4_2) < 0) = true := decide_eq_true c23
                clear c23
                have H' := Aside0.mk H
                clear H
                have hcz24_0 : wr.cell? ⟨gb262, 0, none⟩ = some (.slice A0_0 l0_0.length c0_0) := (blk_cell BK262.out 0).trans rfl
                have hcz24_1 : wr.cell? ⟨gb262, 1, none⟩ = some (.slice A0_1 l0_1.length c0_1) := (blk_cell BK262.out 1).trans rfl
                have hfz24_0 := blk_frozen BK262.out 0
                have hfz24_1 := blk_frozen BK262.out 1
                have p264 : 0 ≤ (x4_2 : Int) := of_decide_eq_true (by first | (with_reducible assumption) | assumption)
                have q264 : x4_2 < (l0_0.length : Int) := of_decide_eq_true (by first | (with_reducible assumption) | assumption)
                obtain ⟨ad264, A264_0, c264_0, e264, hx264_0, hl264_0, hi264_0⟩ := at_L1 HR0_0.out x4_2 p264 q264
                cases e264
                replace hx264_0 := (HB.out.cell (World.block_lt_of_cell? w _ hx264_0)).trans hx264_0
                have HR264_0 := Aside0.mk hi264_0
                have HC264_0 := Aside0.mk hl264_0
                clear hi264_0 hl264_0
                replace p264 := eq_true p264
                replace q264 := eq_true q264
                have p265 : 0 ≤ (x4_2 : Int) := of_decide_eq_true (by first | (with_reducible assumption) | assumption)
                have q265 : x4_2 < (l0_0.length : Int) := of_decide_eq_true (by first | (with_reducible assumption) | assumption)
                obtain ⟨ad265, A265_0, c265_0, e265, hx265_0, hl265_0, hi265_0⟩ := at_L1 HR0_0.out x4_2 p265 q265
                obtain rfl : ad264 = ad265 := (by injection e265)
                replace hx265_0 := (HB.out.cell (World.block_lt_of_cell? w _ hx265_0)).trans hx265_0
                have HR265_0 := Aside0.mk hi265_0
                have HC265_0 := Aside0.mk hl265_0
                clear hi265_0 hl265_0
                replace p265 := eq_true p265
                replace q265 := eq_true q265
                have ea_ := Option.some.inj (hx264_0.symm.trans hx265_0)
                injection ea_ with ea_ en_ ec_
                subst ea_
                subst ec_
                clear en_
                have p266 : 0 ≤ (0 : Int) := (by omega)
                have q266 : 0 < (l0_0.length : Int) := of_decide_eq_true (by first | (with_reducible assumption) | assumption)
                obtain ⟨ad266, A266_0, c266_0, e266, hx266_0, hl266_0, hi266_0⟩ := at_L1 HR0_0.out 0 p266 q266
                obtain rfl : ad264 = ad266 := (by injection e266)
                have qi266 : (0 < l0_0.length) = True := eq_true (by omega)
                (try rw [show ((0 : Int)).toNat = 0 from rfl] at hx266_0)
                (try rw [Addr.add_zero'] at hx266_0)
                replace hx266_0 := (HB.out.cell (World.block_lt_of_cell? w _ hx266_0)).trans hx266_0
                have HR266_0 := Aside0.mk hi266_0
                have HC266_0 := Aside0.mk hl266_0
                clear hi266_0 hl266_0
                replace p266 := eq_true p266
                replace q266 := eq_true q266
                have p267 : 0 ≤ (x4_2 : Int) := of_decide_eq_true (by first | (with_reducible assumption) | assumption)
                have q267 : x4_2 < (l0_1.length : Int) := of_decide_eq_true (by first | (with_reducible assumption) | assumption)
                obtain ⟨ad267, e267, hx267_0⟩ := Kd.at_int HR0_1.out x4_2 p267 q267
                cases e267
                replace hx267_0 := (HB.out.cell (World.block_lt_of_cell? w _ hx267_0)).trans hx267_0
                replace p267 := eq_true p267
                replace q267 := eq_true q267
                go_wp2
                repeat (go_quiet (fail); try go_wp2)
                go_meet
                case rel => exact ⟨_, (true), (by first | rfl | (simp; done) | (simp [*]; done)), H', ⟨by have := HK1.out; have := HK2.out; first | omega | exact Nat.le_refl _⟩, ⟨by (with_reducible repeat (first | refine blk_drewN ?_ _ | refine blk_drew ?_ | refine blk_alloc ?_ _)); exact BK262.out⟩, ⟨by repeat (first | (with_reducible first | exact HB.out | apply below_alloc | apply pw_below_drewN | apply below_drew1 | refine below_set ?_ GE262.out) | exact HB.out)⟩⟩
               ·rw [if_neg c23] at H
                have c23b0 : decide ((rd l0_1 x4_2) < 0) = false := decide_eq_false c23
                clear c23
                have H' := Aside0.mk H
                clear H
                have hcz25_0 : wr.cell? ⟨gb262, 0, none⟩ = some (.slice A0_0 l0_0.length c0_0) := (blk_cell BK262.out 0).trans rfl
                have hcz25_1 : wr.cell? ⟨gb262, 1, none⟩ = some (.slice A0_1 l0_1.length c0_1) := (blk_cell BK262.out 1).trans rfl
                have hfz25_0 := blk_frozen BK262.out 0
                have hfz25_1 := blk_frozen BK262.out 1
                have p264 : 0 ≤ (x4_2 : Int) := of_decide_eq_true (by first | (with_reducible assumption) | assumption)
                have q264 : x4_2 < (l0_0.length : Int) := of_decide_eq_true (by first | (with_reducible assumption) | assumption)
                obtain ⟨ad264, A264_0, c264_0, e264, hx264_0, hl264_0, hi264_0⟩ := at_L1 HR0_0.out x4_2 p264 q264
                cases e264
                replace hx264_0 := (HB.out.cell (World.block_lt_of_cell? w _ hx264_0)).trans hx264_0
                have HR264_0 := Aside0.mk hi264_0
                have HC264_0 := Aside0.mk hl264_0
                clear hi264_0 hl264_0
                replace p264 := eq_true p264
                replace q264 := eq_true q264
                have p265 : 0 ≤ (x4_2 : Int) := of_decide_eq_true (by first | (with_reducible assumption) | assumption)
                have q265 : x4_2 < (l0_0.length : Int) := of_decide_eq_true (by first | (with_reducible assumption) | assumption)
                obtain ⟨ad265, A265_0, c265_0, e265, hx265_0, hl265_0, hi265_0⟩ := at_L1 HR0_0.out x4_2 p265 q265
                obtain rfl : ad264 = ad265 := (by injection e265)
                replace hx265_0 := (HB.out.cell (World.block_lt_of_cell? w _ hx265_0)).trans hx265_0
                have HR265_0 := Aside0.mk hi265_0
                have HC265_0 := Aside0.mk hl265_0
                clear hi265_0 hl265_0
                replace p265 := eq_true p265
                replace q265 := eq_true q265
                have ea_ := Option.some.inj (hx264_0.symm.trans hx265_0)
                injection ea_ with ea_ en_ ec_
                subst ea_
                subst ec_
                clear en_
                have p266 : 0 ≤ (0 : Int) := (by omega)
                have q266 : 0 < (l0_0.length : Int) := of_decide_eq_true (by first | (with_reducible assumption) | assumption)
                obtain ⟨ad266, A266_0, c266_0, e266, hx266_0, hl266_0, hi266_0⟩ := at_L1 HR0_0.out 0 p266 q266
                obtain rfl : ad264 = ad266 := (by injection e266)
                have qi266 : (0 < l0_0.length) = True := eq_true (by omega)
                (try rw [show ((0 : Int)).toNat = 0 from rfl] at hx266_0)
                (try rw [Addr.add_zero'] at hx266_0)
                replace hx266_0 := (HB.out.cell (World.block_lt_of_cell? w _ hx266_0)).trans hx266_0
                have HR266_0 := Aside0.mk hi266_0
                have HC266_0 := Aside0.mk hl266_0
                clear hi266_0 hl266_0
                replace p266 := eq_true p266
                replace q266 := eq_true q266
                have p267 : 0 ≤ (x4_2 : Int) := of_decide_eq_true (by first | (with_reducible assumption) | assumption)
                have q267 : x4_2 < (l0_1.length : Int) := of_decide_eq_true (by first | (with_reducible assumption) | assumption)
                obtain ⟨ad267, e267, hx267_0⟩ := Kd.at_int HR0_1.out x4_2 p267 q267
                cases e267
                replace hx267_0 := (HB.out.cell (World.block_lt_of_cell? w _ hx267_0)).trans hx267_0
                replace p267 := eq_true p267
                replace q267 := eq_true q267
                have p268 : 0 ≤ (x4_2 : Int) := of_decide_eq_true (by first | (with_reducible assumption) | assumption)
                have q268 : x4_2 < (l0_1.length : Int) := of_decide_eq_true (by first | (with_reducible assumption) | assumption)
                obtain ⟨ad268, e268, hx268_0⟩ := Kd.at_int HR0_1.out x4_2 p268 q268
                obtain rfl : ad267 = ad268 := (by injection e268)
                replace hx268_0 := (HB.out.cell (World.block_lt_of_cell? w _ hx268_0)).trans hx268_0
                replace p268 := eq_true p268
                replace q268 := eq_true q268
                go_wp2
                repeat (go_quiet (fail); try go_wp2)
                go_meet
                case rel => exact ⟨_, (decide ((rd l0_1 x4_2) ≥ 64)), (by first | rfl | (simp; done) | (simp [*]; done)), H', ⟨by have := HK1.out; have := HK2.out; first | omega | exact Nat.le_refl _⟩, ⟨by (with_reducible repeat (first | refine blk_drewN ?_ _ | refine blk_drew ?_ | refine blk_alloc ?_ _)); exact BK262.out⟩, ⟨by repeat (first | (with_reducible first | exact HB.out | apply below_alloc | apply pw_below_drewN | apply below_drew1 | refine below_set ?_ GE262.out) | exact HB.out)⟩⟩
              ·rw [if_neg c22] at H
               exact absurd H (by simp)
             ·rw [if_neg c21] at H
              have c21b0 : (((rd_L1 l0_0 x4_2).length : Int) == ((rd_L1 l0_0 0).length : Int)) = false := beq_eq_false_iff_ne.mpr c21
              have c21b1 : (((rd_L1 l0_0 x4_2).length : Int) != ((rd_L1 l0_0 0).length : Int)) = true := bne_iff_ne.mpr c21
              have c21b2 : ((rd_L1 l0_0 x4_2).length == (rd_L1 l0_0 0).length) = false := by first | simpa using c21 | (simp at c21 ⊢; omega)
              have H' := Aside0.mk H
              clear H
              have hcz26_0 : wr.cell? ⟨gb262, 0, none⟩ = some (.slice A0_0 l0_0.length c0_0) := (blk_cell BK262.out 0).trans rfl
              have hcz26_1 : wr.cell? ⟨gb262, 1, none⟩ = some (.slice A0_1 l0_1.length c0_1) := (blk_cell BK262.out 1).trans rfl
              have hfz26_0 := blk_frozen BK262.out 0
              have hfz26_1 := blk_frozen BK262.out 1
              have p264 : 0 ≤ (x4_2 : Int) := of_decide_eq_true (by first | (with_reducible assumption) | assumption)
              have q264 : x4_2 < (l0_0.length : Int) := of_decide_eq_true (by first | (with_reducible assumption) | assumption)
              obtain ⟨ad264, A264_0, c264_0, e264, hx264_0, hl264_0, hi264_0⟩ := at_L1 HR0_0.out x4_2 p264 q264
              cases e264
              replace hx264_0 := (HB.out.cell (World.block_lt_of_cell? w _ hx264_0)).trans hx264_0
              have HR264_0 := Aside0.mk hi264_0
              have HC264_0 := Aside0.mk hl264_0
              clear hi264_0 hl264_0
              replace p264 := eq_true p264
              replace q264 := eq_true q264
              have p265 : 0 ≤ (x4_2 : Int) := of_decide_eq_true (by first | (with_reducible assumption) | assumption)
              have q265 : x4_2 < (l0_0.length : Int) := of_decide_eq_true (by first | (with_reducible assumption) | assumption)
              obtain ⟨ad265, A265_0, c265_0, e265, hx265_0, hl265_0, hi265_0⟩ := at_L1 HR0_0.out x4_2 p265 q265
              obtain rfl : ad264 = ad265 := (by injection e265)
              replace hx265_0 := (HB.out.cell (World.block_lt_of_cell? w _ hx265_0)).trans hx265_0
              have HR265_0 := Aside0.mk hi265_0
              have HC265_0 := Aside0.mk hl265_0
              clear hi265_0 hl265_0
              replace p265 := eq_true p265
              replace q265 := eq_true q265
              have ea_ := Option.some.inj (hx264_0.symm.trans hx265_0)
              injection ea_ with ea_ en_ ec_
              subst ea_
              subst ec_
              clear en_
              have p266 : 0 ≤ (0 : Int) := (by omega)
              have q266 : 0 < (l0_0.length : Int) := of_decide_eq_true (by first | (with_reducible assumption) | assumption)
              obtain ⟨ad266, A266_0, c266_0, e266, hx266_0, hl266_0, hi266_0⟩ := at_L1 HR0_0.out 0 p266 q266
              obtain rfl : ad264 = ad266 := (by injection e266)
              have qi266 : (0 < l0_0.length) = True := eq_true (by omega)
              (try rw [show ((0 : Int)).toNat = 0 from rfl] at hx266_0)
              (try rw [Addr.add_zero'] at hx266_0)
              replace hx266_0 := (HB.out.cell (World.block_lt_of_cell? w _ hx266_0)).trans hx266_0
              have HR266_0 := Aside0.mk hi266_0
              have HC266_0 := Aside0.mk hl266_0
              clear hi266_0 hl266_0
              replace p266 := eq_true p266
              replace q266 := eq_true q266
              go_wp2
              repeat (go_quiet (fail); try go_wp2)
              go_meet
              case rel => exact ⟨_, (true), (by first | rfl | (simp; done) | (simp [*]; done)), H', ⟨by have := HK1.out; have := HK2.out; first | omega | exact Nat.le_refl _⟩, ⟨by (with_reducible repeat (first | refine blk_drewN ?_ _ | refine blk_drew ?_ | refine blk_alloc ?_ _)); exact BK262.out⟩, ⟨by repeat (first | (with_reducible first | exact HB.out | apply below_alloc | apply pw_below_drewN | apply below_drew1 | refine below_set ?_ GE262.out) | exact HB.out)⟩⟩
            ·rw [if_neg c20] at H
             exact absurd H (by simp)
          ·rw [if_neg c17] at H
           exact absurd H (by simp)
         case rest =>
          clear HC15
          try clear c1
          try clear c2
          try clear c2b0
          try clear c2b1
          try clear p2
          try clear q2
          try clear hx2
          try clear qi2
          try clear c5
          try clear p6
          try clear c7
          try clear c7b0
          try clear c8
          try clear c8b0
          try clear c9
          try clear c9b0
          try clear c9b1
          try clear c12
          try clear c12b0
          try clear c12b1
          try clear c12b2
          try clear c14
          try clear c14b0
          try clear c17
          try clear c17b0
          try clear c18
          try clear c18b0
          try clear c18b1
          try clear c20
          try clear c20b0
          try clear c20b1
          try clear c21
          try clear c21b0
          try clear c21b1
          try clear c21b2
          try clear c22
          try clear c22b0
          try clear c23
          try clear c23b0
          try clear c26
          try clear p26
          try clear q26
          try clear hx26
          try clear qi26
          try clear hcz10_0
          try clear hcz10_1
          try clear hcz11_0
          try clear hcz11_1
          try clear hcz13_0
          try clear hcz13_1
          try clear hcz16_0
          try clear hcz16_1
          try clear hcz19_0
          try clear hcz19_1
          try clear hcz24_0
          try clear hcz24_1
          try clear hcz25_0
          try clear hcz25_1
          try clear hcz26_0
          try clear hcz26_1
          try clear hcz4_0
          try clear hcz4_1
          try clear hcz6_0
          try clear hcz6_1
          try clear hfz10_0
          try clear hfz10_1
          try clear hfz11_0
          try clear hfz11_1
          try clear hfz13_0
          try clear hfz13_1
          try clear hfz16_0
          try clear hfz16_1
          try clear hfz19_0
          try clear hfz19_1
          try clear hfz24_0
          try clear hfz24_1
          try clear hfz25_0
          try clear hfz25_1
          try clear hfz26_0
          try clear hfz26_1
          try clear hfz4_0
          try clear hfz4_1
          try clear hfz6_0
          try clear hfz6_1
          try clear hx263_0
          try clear hx264_0
          try clear hx265_0
          try clear hx266_0
          try clear hx267_0
          try clear hx268_0
          try clear p2
          try clear p263
          try clear p264
          try clear p265
          try clear p266
          try clear p267
          try clear p268
          try clear p6
          try clear q2
          try clear q263
          try clear q264
          try clear q265
          try clear q266
          try clear q267
          try clear q268
          obtain ⟨kq, x74_14, rfl, HA, HJ14, BK262, HB⟩ := hcut
          cases kq with
          | zero => exact absurd HA.out (by simp [signatoryref23_Check.j2])
          | succ kj14 =>
           have H := HA.out
           clear HA
           simp only [signatoryref23_Check.j2] at H
           by_cases c27 : x74_14 = true
           ·subst c27
            have H1 : (some 230) = some r := by rw [if_pos rfl] at H; exact H
            clear H
            have H := H1
            clear H1
            obtain rfl := Option.some.inj H
            go_wp2
            repeat (go_quiet (fail); try go_wp2)
            go_ret
            exact ⟨by first | rfl | (simp [errW_none, errW_some] <;> rfl) | (simp [*, errW_none, errW_some] <;> rfl), by repeat (first | (with_reducible first | exact HB.out | apply below_alloc | apply pw_below_drewN | apply below_drew1 | refine below_set ?_ GE262.out) | exact HB.out)⟩
           ·replace c27 := Bool.eq_false_iff.mpr c27
            subst c27
            have H1 : (signatoryref23_Check.l2 kj14 x4_2 0 l0_0 l0_1) = some r := by rw [if_neg (show ¬ (false = true) by decide)] at H; exact H
            clear H
            have H := H1
            clear H1
            have H' := Aside0.mk H
            clear H
            go_wp2
            repeat (go_quiet (fail); try go_wp2)
            go_loopg [5] kj14 (fun kq v5 w' => ∃ (x5_4 : Int), v5 = .int .i64 x5_4 ∧ Aside0 (signatoryref23_Check.l2 kq x4_2 x5_4 l0_0 l0_1 = some r) ∧ Aside0 (kq ≤ kj14) ∧ Aside0 (w'.heap[gb262]? = some (.cells #[(.slice A0_0 l0_0.length c0_0), (.slice A0_1 l0_1.length c0_1)] 25 (0, 0))) ∧ Aside0 (Below w.heap.size w w'))
            case atStart => exact ⟨(0), (by first | rfl | (simp; done) | (simp [*]; done)), H', ⟨Nat.le_refl _⟩, ⟨by (with_reducible repeat (first | refine blk_drewN ?_ _ | refine blk_drew ?_ | refine blk_alloc ?_ _)); exact BK262.out⟩, ⟨by repeat (first | (with_reducible first | exact HB.out | apply below_alloc | apply pw_below_drewN | apply below_drew1 | refine below_set ?_ GE262.out) | exact HB.out)⟩⟩
            case round =>
             clear H'
             try clear c1
             try clear c2
             try clear c2b0
             try clear c2b1
             try clear p2
             try clear q2
             try clear hx2
             try clear qi2
             try clear c5
             try clear p6
             try clear c7
             try clear c7b0
             try clear c8
             try clear c8b0
             try clear c9
             try clear c9b0
             try clear c9b1
             try clear c12
             try clear c12b0
             try clear c12b1
             try clear c12b2
             try clear c14
             try clear c14b0
             try clear c17
             try clear c17b0
             try clear c18
             try clear c18b0
             try clear c18b1
             try clear c20
             try clear c20b0
             try clear c20b1
             try clear c21
             try clear c21b0
             try clear c21b1
             try clear c21b2
             try clear c22
             try clear c22b0
             try clear c23
             try clear c23b0
             try clear c26
             try clear p26
             try clear q26
             try clear hx26
             try clear qi26
             try clear c27
             try clear hcz10_0
             try clear hcz10_1
             try clear hcz11_0
             try clear hcz11_1
             try clear hcz13_0
             try clear hcz13_1
             try clear hcz16_0
             try clear hcz16_1
             try clear hcz19_0
             try clear hcz19_1
             try clear hcz24_0
             try clear hcz24_1
             try clear hcz25_0
             try clear hcz25_1
             try clear hcz26_0
             try clear hcz26_1
             try clear hcz4_0
             try clear hcz4_1
             try clear hcz6_0
             try clear hcz6_1
             try clear hfz10_0
             try clear hfz10_1
             try clear hfz11_0
             try clear hfz11_1
             try clear hfz13_0
             try clear hfz13_1
             try clear hfz16_0
             try clear hfz16_1
             try clear hfz19_0
             try clear hfz19_1
             try clear hfz24_0
             try clear hfz24_1
             try clear hfz25_0
             try clear hfz25_1
             try clear hfz26_0
             try clear hfz26_1
             try clear hfz4_0
             try clear hfz4_1
             try clear hfz6_0
             try clear hfz6_1
             try clear hx263_0
             try clear hx264_0
             try clear hx265_0
             try clear hx266_0
             try clear hx267_0
             try clear hx268_0
             try clear p2
             try clear p26
             try clear p263
             try clear p264
             try clear p265
             try clear p266
             try clear p267
             try clear p268
             try clear p6
             try clear q2
             try clear q26
             try clear q263
             try clear q264
             try clear q265
             try clear q266
             try clear q267
             try clear q268
             obtain ⟨x5_4, rfl, HA, HK4, BK262, HB⟩ := hrel
             cases gk with
             | zero => exact absurd HA.out (by simp [signatoryref23_Check.l2])
             | succ k4 =>
              have H := HA.out
              clear HA
              simp only [signatoryref23_Check.l2] at H
              by_cases c28 : 0 ≤ x4_2
              ·rw [if_pos c28] at H
               have c28b0 : decide (0 ≤ x4_2) = true := decide_eq_true c28
               clear c28
               by_cases c29 : x4_2 < (l0_0.length : Int)
               ·rw [if_pos c29] at H
                have c29b0 : decide (x4_2 < (l0_0.length : Int)) = true := decide_eq_true c29
                clear c29
                by_cases c30 : x5_4 < ((rd_L1 l0_0 x4_2).length : Int)
                ·rw [if_pos c30] at H
                 have c30b0 : decide (x5_4 < ((rd_L1 l0_0 x4_2).length : Int)) = true := decide_eq_true c30
                 clear c30
                 by_cases c31 : 0 ≤ x5_4
                 ·rw [if_pos c31] at H
                  have c31b0 : decide (0 ≤ x5_4) = true := decide_eq_true c31
                  clear c31
                  by_cases c32 : (rd (rd_L1 l0_0 x4_2) x5_4) < 0
                  ·rw [if_pos c32] at H
                   have c32b0 : decide ((rd (rd_L1 l0_0 x4_2) x5_4) < 0) = true := decide_eq_true c32
                   clear c32
                   obtain rfl := Option.some.inj H
                   have hcz33_0 : wr.cell? ⟨gb262, 0, none⟩ = some (.slice A0_0 l0_0.length c0_0) := (blk_cell BK262.out 0).trans rfl
                   have hcz33_1 : wr.cell? ⟨gb262, 1, none⟩ = some (.slice A0_1 l0_1.length c0_1) := (blk_cell BK262.out 1).trans rfl
                   have hfz33_0 := blk_frozen BK262.out 0
                   have hfz33_1 := blk_frozen BK262.out 1
                   have p269 : 0 ≤ (x4_2 : Int) := of_decide_eq_true (by first | (with_reducible assumption) | assumption)
                   have q269 : x4_2 < (l0_0.length : Int) := of_decide_eq_true (by first | (with_reducible assumption) | assumption)
                   obtain ⟨ad269, A269_0, c269_0, e269, hx269_0, hl269_0, hi269_0⟩ := at_L1 HR0_0.out x4_2 p269 q269
                   cases e269
                   replace hx269_0 := (HB.out.cell (World.block_lt_of_cell? w _ hx269_0)).trans hx269_0
                   have HR269_0 := Aside0.mk hi269_0
                   have HC269_0 := Aside0.mk hl269_0
                   clear hi269_0 hl269_0
                   replace p269 := eq_true p269
                   replace q269 := eq_true q269
                   have p270 : 0 ≤ (x4_2 : Int) := of_decide_eq_true (by first | (with_reducible assumption) | assumption)
                   have q270 : x4_2 < (l0_0.length : Int) := of_decide_eq_true (by first | (with_reducible assumption) | assumption)
                   obtain ⟨ad270, A270_0, c270_0, e270, hx270_0, hl270_0, hi270_0⟩ := at_L1 HR0_0.out x4_2 p270 q270
                   obtain rfl : ad269 = ad270 := (by injection e270)
                   replace hx270_0 := (HB.out.cell (World.block_lt_of_cell? w _ hx270_0)).trans hx270_0
                   have HR270_0 := Aside0.mk hi270_0
                   have HC270_0 := Aside0.mk hl270_0
                   clear hi270_0 hl270_0
                   replace p270 := eq_true p270
                   replace q270 := eq_true q270
                   have ea_ := Option.some.inj (hx269_0.symm.trans hx270_0)
                   injection ea_ with ea_ en_ ec_
                   subst ea_
                   subst ec_
                   clear en_
                   have p271 : 0 ≤ (x5_4 : Int) := of_decide_eq_true (by first | (with_reducible assumption) | assumption)
                   have q271 : x5_4 < ((rd_L1 l0_0 x4_2).length : Int) := of_decide_eq_true (by first | (with_reducible assumption) | assumption)
                   obtain ⟨ad271, e271, hx271_0⟩ := Kd.at_int HR270_0.out x5_4 p271 q271
                   cases e271
                   replace hx271_0 := (HB.out.cell (World.block_lt_of_cell? w _ hx271_0)).trans hx271_0
                   replace p271 := eq_true p271
                   replace q271 := eq_true q271
                   go_wp2
                   repeat (go_quiet (fail); try go_wp2)
                   go_ret
                   exact ⟨by first | rfl | (simp [errW_none, errW_some] <;> rfl) | (simp [*, errW_none, errW_some] <;> rfl), by repeat (first | (with_reducible first | exact HB.out | apply below_alloc | apply pw_below_drewN | apply below_drew1 | refine below_set ?_ GE262.out) | exact HB.out)⟩
                  ·rw [if_neg c32] at H
                   have c32b0 : decide ((rd (rd_L1 l0_0 x4_2) x5_4) < 0) = false := decide_eq_false c32
                   clear c32
                   by_cases c34 : (rd (rd_L1 l0_0 x4_2) x5_4) ≥ 1073741789
                   ·rw [if_pos c34] at H
                    have c34b0 : decide (1073741789 ≤ (rd (rd_L1 l0_0 x4_2) x5_4)) = true := decide_eq_true c34
                    clear c34
                    obtain rfl := Option.some.inj H
                    have hcz35_0 : wr.cell? ⟨gb262, 0, none⟩ = some (.slice A0_0 l0_0.length c0_0) := (blk_cell BK262.out 0).trans rfl
                    have hcz35_1 : wr.cell? ⟨gb262, 1, none⟩ = some (.slice A0_1 l0_1.length c0_1) := (blk_cell BK262.out 1).trans rfl
                    have hfz35_0 := blk_frozen BK262.out 0
                    have hfz35_1 := blk_frozen BK262.out 1
                    have p269 : 0 ≤ (x4_2 : Int) := of_decide_eq_true (by first | (with_reducible assumption) | assumption)
                    have q269 : x4_2 < (l0_0.length : Int) := of_decide_eq_true (by first | (with_reducible assumption) | assumption)
                    obtain ⟨ad269, A269_0, c269_0, e269, hx269_0, hl269_0, hi269_0⟩ := at_L1 HR0_0.out x4_2 p269 q269
                    cases e269
                    replace hx269_0 := (HB.out.cell (World.block_lt_of_cell? w _ hx269_0)).trans hx269_0
                    have HR269_0 := Aside0.mk hi269_0
                    have HC269_0 := Aside0.mk hl269_0
                    clear hi269_0 hl269_0
                    replace p269 := eq_true p269
                    replace q269 := eq_true q269
                    have p270 : 0 ≤ (x4_2 : Int) := of_decide_eq_true (by first | (with_reducible assumption) | assumption)
                    have q270 : x4_2 < (l0_0.length : Int) := of_decide_eq_true (by first | (with_reducible assumption) | assumption)
                    obtain ⟨ad270, A270_0, c270_0, e270, hx270_0, hl270_0, hi270_0⟩ := at_L1 HR0_0.out x4_2 p270 q270
                    obtain rfl : ad269 = ad270 := (by injection e270)
                    replace hx270_0 := (HB.out.cell (World.block_lt_of_cell? w _ hx270_0)).trans hx270_0
                    have HR270_0 := Aside0.mk hi270_0
                    have HC270_0 := Aside0.mk hl270_0
                    clear hi270_0 hl270_0
                    replace p270 := eq_true p270
                    replace q270 := eq_true q270
                    have ea_ := Option.some.inj (hx269_0.symm.trans hx270_0)
                    injection ea_ with ea_ en_ ec_
                    subst ea_
                    subst ec_
                    clear en_
                    have p271 : 0 ≤ (x5_4 : Int) := of_decide_eq_true (by first | (with_reducible assumption) | assumption)
                    have q271 : x5_4 < ((rd_L1 l0_0 x4_2).length : Int) := of_decide_eq_true (by first | (with_reducible assumption) | assumption)
                    obtain ⟨ad271, e271, hx271_0⟩ := Kd.at_int HR270_0.out x5_4 p271 q271
                    cases e271
                    replace hx271_0 := (HB.out.cell (World.block_lt_of_cell? w _ hx271_0)).trans hx271_0
                    replace p271 := eq_true p271
                    replace q271 := eq_true q271
                    have p272 : 0 ≤ (x4_2 : Int) := of_decide_eq_true (by first | (with_reducible assumption) | assumption)
                    have q272 : x4_2 < (l0_0.length : Int) := of_decide_eq_true (by first | (with_reducible assumption) | assumption)
                    obtain ⟨ad272, A272_0, c272_0, e272, hx272_0, hl272_0, hi272_0⟩ := at_L1 HR0_0.out x4_2 p272 q272
                    obtain rfl : ad269 = ad272 := (by injection e272)
                    replace hx272_0 := (HB.out.cell (World.block_lt_of_cell? w _ hx272_0)).trans hx272_0
                    have HR272_0 := Aside0.mk hi272_0
                    have HC272_0 := Aside0.mk hl272_0
                    clear hi272_0 hl272_0
                    replace p272 := eq_true p272
                    replace q272 := eq_true q272
                    have ea_ := Option.some.inj (hx269_0.symm.trans hx272_0)
                    injection ea_ with ea_ en_ ec_
                    subst ea_
                    subst ec_
                    clear en_
                    have p273 : 0 ≤ (x5_4 : Int) := of_decide_eq_true (by first | (with_reducible assumption) | assumption)
                    have q273 : x5_4 < ((rd_L1 l0_0 x4_2).length : Int) := of_decide_eq_true (by first | (with_reducible assumption) | assumption)
                    obtain ⟨ad273, e273, hx273_0⟩ := Kd.at_int HR272_0.out x5_4 p273 q273
                    cases e273
                    replace hx273_0 := (HB.out.cell (World.block_lt_of_cell? w _ hx273_0)).trans hx273_0
                    replace p273 := eq_true p273
                    replace q273 := eq_true q273
                    go_wp2
                    repeat (go_quiet (fail); try go_wp2)
                    go_ret
                    exact ⟨by first | rfl | (simp [errW_none, errW_some] <;> rfl) | (simp [*, errW_none, errW_some] <;> rfl), by repeat (first | (with_reducible first | exact HB.out | apply below_alloc | apply pw_below_drewN | apply below_drew1 | refine below_set ?_ GE262.out) | exact HB.out)⟩
                   ·rw [if_neg c34] at H
                    have c34b0 : decide (1073741789 ≤ (rd (rd_L1 l0_0 x4_2) x5_4)) = false := decide_eq_false c34
                    clear c34
                    have H' := Aside0.mk H
                    clear H
                    have hcz36_0 : wr.cell? ⟨gb262, 0, none⟩ = some (.slice A0_0 l0_0.length c0_0) := (blk_cell BK262.out 0).trans rfl
                    have hcz36_1 : wr.cell? ⟨gb262, 1, none⟩ = some (.slice A0_1 l0_1.length c0_1) := (blk_cell BK262.out 1).trans rfl
                    have hfz36_0 := blk_frozen BK262.out 0
                    have hfz36_1 := blk_frozen BK262.out 1
                    have p269 : 0 ≤ (x4_2 : Int) := of_decide_eq_true (by first | (with_reducible assumption) | assumption)
                    have q269 : x4_2 < (l0_0.length : Int) := of_decide_eq_true (by first | (with_reducible assumption) | assumption)
                    obtain ⟨ad269, A269_0, c269_0, e269, hx269_0, hl269_0, hi269_0⟩ := at_L1 HR0_0.out x4_2 p269 q269
                    cases e269
                    replace hx269_0 := (HB.out.cell (World.block_lt_of_cell? w _ hx269_0)).trans hx269_0
                    have HR269_0 := Aside0.mk hi269_0
                    have HC269_0 := Aside0.mk hl269_0
                    clear hi269_0 hl269_0
                    replace p269 := eq_true p269
                    replace q269 := eq_true q269
                    have p270 : 0 ≤ (x4_2 : Int) := of_decide_eq_true (by first | (with_reducible assumption) | assumption)
                    have q270 : x4_2 < (l0_0.length : Int) := of_decide_eq_true (by first | (with_reducible assumption) | assumption)
                    obtain ⟨ad270, A270_0, c270_0, e270, hx270_0, hl270_0, hi270_0⟩ := at_L1 HR0_0.out x4_2 p270 q270
                    obtain rfl : ad269 = ad270 := (by injection e270)
                    replace hx270_0 := (HB.out.cell (World.block_lt_of_cell? w _ hx270_0)).trans hx270_0
                    have HR270_0 := Aside0.mk hi270_0
                    have HC270_0 := Aside0.mk hl270_0
                    clear hi270_0 hl270_0
                    replace p270 := eq_true p270
                    replace q270 := eq_true q270
                    have ea_ := Option.some.inj (hx269_0.symm.trans hx270_0)
                    injection ea_ with ea_ en_ ec_
                    subst ea_
                    subst ec_
                    clear en_
                    have p271 : 0 ≤ (x5_4 : Int) := of_decide_eq_true (by first | (with_reducible assumption) | assumption)
                    have q271 : x5_4 < ((rd_L1 l0_0 x4_2).length : Int) := of_decide_eq_true (by first | (with_reducible assumption) | assumption)
                    obtain ⟨ad271, e271, hx271_0⟩ := Kd.at_int HR270_0.out x5_4 p271 q271
                    cases e271
                    replace hx271_0 := (HB.out.cell (World.block_lt_of_cell? w _ hx271_0)).trans hx271_0
                    replace p271 := eq_true p271
                    replace q271 := eq_true q271
                    have p272 : 0 ≤ (x4_2 : Int) := of_decide_eq_true (by first | (with_reducible assumption) | assumption)
                    have q272 : x4_2 < (l0_0.length : Int) := of_decide_eq_true (by first | (with_reducible assumption) | assumption)
                    obtain ⟨ad272, A272_0, c272_0, e272, hx272_0, hl272_0, hi272_0⟩ := at_L1 HR0_0.out x4_2 p272 q272
                    obtain rfl : ad269 = ad272 := (by injection e272)
                    replace hx272_0 := (HB.out.cell (World.block_lt_of_cell? w _ hx272_0)).trans hx272_0
                    have HR272_0 := Aside0.mk hi272_0
                    have HC272_0 := Aside0.mk hl272_0
                    clear hi272_0 hl272_0
                    replace p272 := eq_true p272
                    replace q272 := eq_true q272
                    have ea_ := Option.some.inj (hx269_0.symm.trans hx272_0)
                    injection ea_ with ea_ en_ ec_
                    subst ea_
                    subst ec_
                    clear en_
                    have p273 : 0 ≤ (x5_4 : Int) := of_decide_eq_true (by first | (with_reducible assumption) | assumption)
                    have q273 : x5_4 < ((rd_L1 l0_0 x4_2).length : Int) := of_decide_eq_true (by first | (with_reducible assumption) | assumption)
                    obtain ⟨ad273, e273, hx273_0⟩ := Kd.at_int HR272_0.out x5_4 p273 q273
                    cases e273
                    replace hx273_0 := (HB.out.cell (World.block_lt_of_cell? w _ hx273_0)).trans hx273_0
                    replace p273 := eq_true p273
                    replace q273 := eq_true q273
                    go_wp2
                    repeat (go_quiet (fail); try go_wp2)
                    go_roundg k4
                    case measure => have := HK1.out; have := HK2.out; have := HJ14.out; have := HK4.out; omega
                    case rel => exact ⟨(wrap64 (x5_4 + 1)), (by first | rfl | (simp; done) | (simp [*]; done)), H', ⟨by have := HK1.out; have := HK2.out; have := HJ14.out; have := HK4.out; omega⟩, ⟨by (with_reducible repeat (first | refine blk_drewN ?_ _ | refine blk_drew ?_ | refine blk_alloc ?_ _)); exact BK262.out⟩, ⟨by repeat (first | (with_reducible first | exact HB.out | apply below_alloc | apply pw_below_drewN | apply below_drew1 | refine below_set ?_ GE262.out) | exact HB.out)⟩⟩
                 ·rw [if_neg c31] at H
                  exact absurd H (by simp)
                ·rw [if_neg c30] at H
                 have c30b0 : decide (x5_4 < ((rd_L1 l0_0 x4_2).length : Int)) = false := decide_eq_false c30
                 clear c30
                 have H' := Aside0.mk H
                 clear H
                 have hcz37_0 : wr.cell? ⟨gb262, 0, none⟩ = some (.slice A0_0 l0_0.length c0_0) := (blk_cell BK262.out 0).trans rfl
                 have hcz37_1 : wr.cell? ⟨gb262, 1, none⟩ = some (.slice A0_1 l0_1.length c0_1) := (blk_cell BK262.out 1).trans rfl
                 have hfz37_0 := blk_frozen BK262.out 0
                 have hfz37_1 := blk_frozen BK262.out 1
                 have p269 : 0 ≤ (x4_2 : Int) := of_decide_eq_true (by first | (with_reducible assumption) | assumption)
                 have q269 : x4_2 < (l0_0.length : Int) := of_decide_eq_true (by first | (with_reducible assumption) | assumption)
                 obtain ⟨ad269, A269_0, c269_0, e269, hx269_0, hl269_0, hi269_0⟩ := at_L1 HR0_0.out x4_2 p269 q269
                 cases e269
                 replace hx269_0 := (HB.out.cell (World.block_lt_of_cell? w _ hx269_0)).trans hx269_0
                 have HR269_0 := Aside0.mk hi269_0
                 have HC269_0 := Aside0.mk hl269_0
                 clear hi269_0 hl269_0
                 replace p269 := eq_true p269
                 replace q269 := eq_true q269
                 go_wp2
                 repeat (go_quiet (fail); try go_wp2)
                 go_roundg k4
                 case measure => have := HK1.out; have := HK2.out; have := HJ14.out; have := HK4.out; omega
                 case rel => exact ⟨(wrap64 (x4_2 + 1)), (by first | rfl | (simp; done) | (simp [*]; done)), H', ⟨by have := HK1.out; have := HK2.out; have := HJ14.out; have := HK4.out; omega⟩, ⟨by (with_reducible repeat (first | refine blk_drewN ?_ _ | refine blk_drew ?_ | refine blk_alloc ?_ _)); exact BK262.out⟩, ⟨by repeat (first | (with_reducible first | exact HB.out | apply below_alloc | apply pw_below_drewN | apply below_drew1 | refine below_set ?_ GE262.out) | exact HB.out)⟩⟩
               ·rw [if_neg c29] at H
                exact absurd H (by simp)
              ·rw [if_neg c28] at H
               exact absurd H (by simp)
        ·rw [if_neg c14] at H
         have c14b0 : decide (x4_2 < (l0_0.length : Int)) = false := decide_eq_false c14
         clear c14
         obtain rfl := Option.some.inj H
         have hcz38_0 : wr.cell? ⟨gb262, 0, none⟩ = some (.slice A0_0 l0_0.length c0_0) := (blk_cell BK262.out 0).trans rfl
         have hcz38_1 : wr.cell? ⟨gb262, 1, none⟩ = some (.slice A0_1 l0_1.length c0_1) := (blk_cell BK262.out 1).trans rfl
         have hfz38_0 := blk_frozen BK262.out 0
         have hfz38_1 := blk_frozen BK262.out 1
         go_wp2
         repeat (go_quiet (fail); try go_wp2)
         go_ret
         exact ⟨by first | rfl | (simp [errW_none, errW_some] <;> rfl) | (simp [*, errW_none, errW_some] <;> rfl), by repeat (first | (with_reducible first | exact HB.out | apply below_alloc | apply pw_below_drewN | apply below_drew1 | refine below_set ?_ GE262.out) | exact HB.out)⟩
     ·rw [if_neg c12] at H
      have c12b0 : ((l0_0.length : Int) == (l0_1.length : Int)) = false := beq_eq_false_iff_ne.mpr c12
      have c12b1 : ((l0_0.length : Int) != (l0_1.length : Int)) = true := bne_iff_ne.mpr c12
      have c12b2 : (l0_0.length == l0_1.length) = false := by first | simpa using c12 | (simp at c12 ⊢; omega)
      obtain rfl := Option.some.inj H
      have hcz39_0 : wr.cell? ⟨gb262, 0, none⟩ = some (.slice A0_0 l0_0.length c0_0) := (blk_cell BK262.out 0).trans rfl
      have hcz39_1 : wr.cell? ⟨gb262, 1, none⟩ = some (.slice A0_1 l0_1.length c0_1) := (blk_cell BK262.out 1).trans rfl
      have hfz39_0 := blk_frozen BK262.out 0
      have hfz39_1 := blk_frozen BK262.out 1
      go_wp2
      repeat (go_quiet (fail); try go_wp2)
      go_ret
      exact ⟨by first | rfl | (simp [errW_none, errW_some] <;> rfl) | (simp [*, errW_none, errW_some] <;> rfl), by repeat (first | (with_reducible first | exact HB.out | apply below_alloc | apply pw_below_drewN | apply below_drew1 | refine below_set ?_ GE262.out) | exact HB.out)⟩
end Go.Proofs.Ytdbamhckgaoibaa.P
namespace Go.Proofs.Ytdbamhckgaoibaa.P
open Go.RowKit Go.Proofs.YtdbamhckgaoibaaW.PrintWords Go.Proofs.YtdbamhckgaoibaaW.PrintLast Go.Proofs.YtdbamhckgaoibaaW.PrintMore
theorem ref_l2 (rows : List (List Int)) (owners : List Int) (i : Nat) (hi : i < rows.length) (hl : (rows.getD i []).length < 1000000) (hn : rows.length < 1000000) (k : Nat) : ∀ d j, (rows.getD i []).length - j = d → j ≤ (rows.getD i []).length →
    signatoryref23_Check.l2 (k + d + 1) (i : Int) (j : Int) rows owners = if ((rows.getD i []).drop j).any outQ then some 230 else signatoryref23_Check.l1 k ((i + 1 : Nat) : Int) rows owners := by
  intro d
  induction d with
  | zero =>
    intro j hd hj
    obtain rfl : j = (rows.getD i []).length := by omega
    rw [signatoryref23_Check.l2, if_pos (by omega), if_pos (by omega), rd_L1_nat, if_neg (by omega), wrap_succ (by omega), List.drop_length]; rfl
  | succ d ih =>
    intro j hd hj
    have hjr : j < (rows.getD i []).length := by omega
    have e2 : (rows.getD i []).getD j 0 = (rows.getD i [])[j] := by rw [List.getD_eq_getElem?_getD, List.getElem?_eq_getElem hjr]; rfl
    rw [signatoryref23_Check.l2, if_pos (by omega), if_pos (by omega), rd_L1_nat, if_pos (by omega), if_pos (by omega), rd_nat, e2, List.drop_eq_getElem_cons hjr, List.any_cons]
    generalize (rows.getD i [])[j] = x
    by_cases h1 : x < 0
    · rw [if_pos h1, outQ_low h1]; rfl
    · rw [if_neg h1]
      by_cases h2 : x ≥ 1073741789
      · rw [if_pos h2, outQ_high h1, decide_eq_true h2]; rfl
      · rw [if_neg h2, outQ_high h1, decide_eq_false (by omega), Bool.false_or, wrap_succ (by omega), ← Nat.add_assoc]
        exact ih (j + 1) (by omega) (by omega)
theorem ref_l1 (rows : List (List Int)) (owners : List Int) (ho : rows.length = owners.length) (hl : ∀ i, i < rows.length → (rows.getD i []).length ≤ 64) (hn : rows.length < 1000000) : ∀ d i k, rows.length - i = d → i ≤ rows.length → 70 * d + 1 ≤ k →
    signatoryref23_Check.l1 k (i : Int) rows owners = some (if goodFrom rows owners d i then 0 else 230) := by
  intro d
  induction d with
  | zero =>
    intro i k hd hi hk
    obtain ⟨k, rfl⟩ : ∃ k', k = k' + 1 := ⟨k - 1, by omega⟩
    rw [signatoryref23_Check.l1, if_neg (by omega)]; rfl
  | succ d ih =>
    intro i k hd hi hk
    have hil := hl i (by omega)
    obtain ⟨k, rfl⟩ : ∃ k', k = k' + (rows.getD i []).length + 1 + 1 + 1 := ⟨k - (rows.getD i []).length - 3, by omega⟩
    rw [signatoryref23_Check.l1, if_pos (by omega), if_pos (by omega), rd_L1_nat, rdL0, rd_nat, goodFrom]
    unfold goodAt
    by_cases h0 : (rows.getD i []).length = 0
    · have e0 : ((rows.getD i []).length != 0) = false := bne_eq_false_iff_eq.2 h0
      rw [if_pos (by omega), signatoryref23_Check.j2, if_pos rfl, e0]; rfl
    · have e0 : ((rows.getD i []).length != 0) = true := bne_iff_ne.2 h0
      rw [if_neg (by omega), if_pos (by omega), e0]
      by_cases h1 : (rows.getD i []).length = (rows.getD 0 []).length
      · have e1 : ((rows.getD i []).length == (rows.getD 0 []).length) = true := beq_iff_eq.2 h1
        rw [if_pos (by omega), if_pos (by omega), e1]
        have hj := ref_l2 rows owners i (by omega) (by omega) hn k (rows.getD i []).length 0 (by omega) (by omega)
        rw [List.drop_zero, ih (i + 1) k (by omega) (by omega) (by omega)] at hj
        by_cases h2 : owners.getD i 0 < 0
        · rw [if_pos h2, signatoryref23_Check.j2, if_pos rfl, decide_eq_false (show ¬ 0 ≤ owners.getD i 0 by omega)]; rfl
        · rw [if_neg h2, signatoryref23_Check.j2, decide_eq_true (show 0 ≤ owners.getD i 0 by omega)]
          by_cases h3 : owners.getD i 0 ≥ 64
          · rw [decide_eq_true h3, if_pos rfl, decide_eq_false (show ¬ owners.getD i 0 ≤ 63 by omega)]; rfl
          · rw [decide_eq_false h3, if_neg (by decide), decide_eq_true (show owners.getD i 0 ≤ 63 by omega)]
            refine hj.trans ?_
            cases (rows.getD i []).any outQ <;> rfl
      · have e1 : ((rows.getD i []).length == (rows.getD 0 []).length) = false := beq_eq_false_iff_ne.2 h1
        rw [if_neg (by omega), signatoryref23_Check.j2, if_pos rfl, e1]; rfl
theorem ref_l0 (rows : List (List Int)) (owners : List Int) (hn : rows.length < 1000000) (k : Nat) : ∀ d j, rows.length - j = d → j ≤ rows.length →
    signatoryref23_Check.l0 (k + d + 1) (j : Int) rows owners = if (rows.drop j).any isLong then some 2 else if rows.length = owners.length then signatoryref23_Check.l1 k 0 rows owners else some 230 := by
  intro d
  induction d with
  | zero =>
    intro j hd hj
    obtain rfl : j = rows.length := by omega
    rw [signatoryref23_Check.l0, if_neg (by omega), List.drop_length]
    by_cases h : rows.length = owners.length
    · rw [if_pos (by omega), if_neg (by simp), if_pos h]
    · rw [if_neg (by omega), if_neg (by simp), if_neg h]
  | succ d ih =>
    intro j hd hj
    have hjr : j < rows.length := by omega
    have e2 : rows.getD j [] = rows[j] := by rw [List.getD_eq_getElem?_getD, List.getElem?_eq_getElem hjr]; rfl
    rw [signatoryref23_Check.l0, if_pos (by omega), if_pos (by omega), rd_L1_nat, e2, List.drop_eq_getElem_cons hjr, List.any_cons]
    generalize rows[j] = x
    unfold isLong
    by_cases h : 64 < x.length
    · rw [if_pos (by omega), decide_eq_true h]; rfl
    · rw [if_neg (by omega), decide_eq_false h, Bool.false_or, wrap_succ (by omega), ← Nat.add_assoc]
      exact ih (j + 1) (by omega) (by omega)
theorem refCheck_math (rows : List (List Int)) (owners : List Int) (k : Nat) (hk : 5000 ≤ k) : signatoryref23_Check.f k rows owners = some (checkP rows owners) := by
  unfold signatoryref23_Check.f checkP
  by_cases h : 64 < rows.length
  · rw [if_pos (by omega), decide_eq_true h]; rfl
  · rw [if_neg (by omega), decide_eq_false h, Bool.false_or]
    obtain ⟨k, rfl⟩ : ∃ k', k = k' + rows.length + 1 := ⟨k - rows.length - 1, by omega⟩
    have h0 := ref_l0 rows owners (by omega) k rows.length 0 (by omega) (by omega)
    rw [List.drop_zero] at h0
    refine h0.trans ?_
    cases hl : rows.any isLong with
    | true => rfl
    | false =>
      by_cases ho : rows.length = owners.length
      · have hl' : ∀ i, i < rows.length → (rows.getD i []).length ≤ 64 := fun i hi => by
          have := List.any_eq_false.1 hl _ (Sig.getD_mem hi)
          unfold isLong at this
          simp only [decide_eq_true_eq] at this
          omega
        have h1 := ref_l1 rows owners ho hl' (by omega) rows.length 0 k (by omega) (by omega) (by omega)
        rw [if_neg (by decide), if_pos ho, if_neg (by decide), if_pos ho]
        exact h1
      · rw [if_neg (by decide), if_neg ho, if_neg (by decide), if_neg ho]
end Go.Proofs.Ytdbamhckgaoibaa.P
namespace Go.Proofs.Ytdbamhckgaoibaa.P
open Go.RowKit Go.Proofs.YtdbamhckgaoibaaW.PrintWords Go.Proofs.YtdbamhckgaoibaaW.PrintLast Go.Proofs.YtdbamhckgaoibaaW.PrintMore
set_option linter.unusedVariables false
set_option linter.unusedSimpArgs false
theorem own_shrink {w : World} {base g n cap : Nat} {e : TypeId} {xs : List Value} (h : w.ownsRow base e 1 (.slice (some ⟨g, 0, none⟩) n cap) n xs) : w.ownsRow base e 1 (.slice (some ⟨g, 0, none⟩) 0 cap) 0 [] := by
  refine ⟨rfl, ?_⟩
  rcases h.2 with ⟨h1, _⟩ | ⟨g', cap', cur, h1, h2, h3, h4, h5, h6, h7⟩
  · cases h1
  · injection h1 with h1 _ h8
    injection h1 with h1
    injection h1 with h1
    subst h1 h8
    exact .inr ⟨g, cap, cur, rfl, h2, h3, Nat.zero_le _, h5, h6, by simp⟩
theorem grow_form {n base : Nat} {w1 : World} {v1 : Value} (h0 : 0 < n) (h1 : Kd.R (Kd.int .i64) 3 w1 base (fun _ => True) v1 ([] ++ List.replicate (n : Int).toNat 0)) :
    ∃ gv cap, v1 = .slice (some ⟨gv, 0, none⟩) n cap ∧ Aside0 (w1.ownsRow base 3 1 (.slice (some ⟨gv, 0, none⟩) 0 cap) 0 []) := by
  obtain ⟨inner, ho⟩ := Kd.R_own h1
  have hle : (([] : List Int) ++ List.replicate (n : Int).toNat (0 : Int)).length = n := by simp
  rw [hle] at ho
  obtain ⟨gv, cap, rfl⟩ : ∃ gv cap, v1 = .slice (some ⟨gv, 0, none⟩) n cap := by
    rcases ho.2 with ⟨_, h⟩ | ⟨gv, cap, cur, h, _⟩
    · omega
    · exact ⟨gv, cap, h⟩
  exact ⟨gv, cap, rfl, ⟨own_shrink ho⟩⟩
theorem ReadsInt_of_C {w : World} {A : Option Addr} {n : Nat} {xs : List Int} (h : Kd.C (Kd.int .i64) w A n xs) : ReadsInt w .i64 A n xs :=
  ⟨h.1, h.2.1, fun hn => by
    obtain ⟨ad, e, hx⟩ := Kd.at_int h 0 (Int.le_refl _) (by omega)
    refine ⟨ad, e, fun j hj => ?_⟩
    obtain ⟨ad', e', hx'⟩ := Kd.at_int h (j : Int) (by omega) (by omega)
    rw [e] at e'
    injection e' with e'
    subst e'
    rw [Int.toNat_natCast] at hx'
    rw [hx', rd_nat]⟩
set_option maxRecDepth 100000 in
set_option maxHeartbeats 1000000 in
theorem grow_nil (n : Nat) (w : World) (hn : n ≤ 1000000) : Calls Try.prog 163 #[.slice none 0 0, .int .i64 (n : Int)] w fun e w' => ∃ v, e = .returned v ∧ w'.ownsRow w.heap.size 3 1 v 0 [] ∧ Below w.heap.size w w' := by
  have c1 : decide ((n : Int) < 0) = false := decide_eq_false (by omega)
  by_cases h0 : 0 < n
  · have c2 : decide ((n : Int) > 0) = true := decide_eq_true (by omega)
    go_enter Try.func163, Try.ntmps163
    go_wp2_with (at_builtin; refine Kd.R_append_zeros (Kd.int .i64) (w0 := w) w.heap.size rfl _ _ 23 3 3 (.int .i64 0) 8 rfl (by kernel_rfl) (k := .i64) (by kernel_rfl) (by kernel_rfl) rfl (by decide) (by decide) (.slice none 0 0) [] (0 : Int) (n : Int) (fun _ => True) rfl rfl (by rfl) (fun _ _ => trivial) (Kd.R_nil _ _ _ _ _) (by omega) (Below.refl _ _) (Nat.le_refl _) (by simp; omega) ?_; intro v1 w1 h1 hB1 hg hat; obtain ⟨gv, cap, rfl, HO⟩ := grow_form h0 h1; have HB := Aside0.mk hB1; clear h1 hB1 hg hat)
    go_ret
    exact ⟨_, rfl, HO.out, HB.out⟩
  · obtain rfl : n = 0 := by omega
    go_enter Try.func163, Try.ntmps163
    go_wp2
    go_ret
    exact ⟨_, rfl, World.ownsRow_nil _ _ _ _, Below.refl _ _⟩
def sizesOf (l : List (List Int)) : Nat := (l.map List.length).sum
theorem sizes_take (l : List (List Int)) (j : Nat) (h : j < l.length) : sizesOf (l.take (j + 1)) = sizesOf (l.take j) + l[j].length := by
  unfold sizesOf
  rw [List.take_succ_eq_append_getElem h, List.map_append, List.sum_append]; simp
theorem sizes_le (l : List (List Int)) (j : Nat) : sizesOf (l.take j) ≤ sizesOf l := by
  unfold sizesOf
  conv => rhs; rw [← List.take_append_drop j l, List.map_append, List.sum_append]
  omega
theorem flatten_take (l : List (List Int)) (j : Nat) (h : j < l.length) : (l.take (j + 1)).flatten = (l.take j).flatten ++ l[j] := by
  rw [List.take_succ_eq_append_getElem h, List.flatten_append]; simp
theorem flatten_size (l : List (List Int)) : l.flatten.length = sizesOf l := by
  rw [List.length_flatten]; rfl
set_option maxRecDepth 100000 in
set_option maxHeartbeats 4000000 in
theorem concat_c (A0 : Option Addr) (c0 : Nat) (l : List (List Int)) (w : World) (hr : Kd.C (Kd.slice 3 (Kd.int .i64)) w A0 l.length l) (hs : sizesOf l ≤ 1000000) :
    Calls Try.prog 85 #[.slice A0 l.length c0] w fun e w' => ∃ v, e = .returned v ∧ w'.ownsRow w.heap.size 3 1 v l.flatten.length (nums .i64 l.flatten) ∧ Below w.heap.size w w' := by
  have HR := Aside0.mk hr
  have hlen : l.length ≤ 9223372036854775807 := hr.2.1
  have HG := Aside0.mk (fun (W : World) => grow_nil (sizesOf l) W hs)
  have HS := Aside0.mk hs
  clear hr hs
  go_enter Try.func85, Try.ntmps85
  go_wp2
  go_loopg [3, 11] l.length (fun gk v3 v11 w' => ∃ j : Nat, j ≤ l.length ∧ gk = l.length - j ∧ v11 = .int .i64 (j : Int) ∧ v3 = .int .i64 (sizesOf (l.take j) : Int) ∧ w = w')
  case atStart => exact ⟨0, Nat.zero_le _, rfl, rfl, rfl, rfl⟩
  case round =>
    obtain ⟨j, hj, rfl, rfl, rfl, hwe⟩ := hrel
    subst hwe
    by_cases hlt : j < l.length
    · have d1 : decide ((j : Int) < (l.length : Int)) = true := decide_eq_true (by omega)
      have d2 : decide (j < l.length) = true := decide_eq_true hlt
      have d4 : (0 : Int) ≤ (j : Int) := by omega
      obtain ⟨ad, A1, c3, e, hx, hx2, hx3⟩ := at_L1 HR.out (j : Int) (by omega) (by omega)
      cases e
      rw [Int.toNat_natCast, rd_L1_nat] at hx
      have e1 : l.getD j [] = l[j] := by rw [List.getD_eq_getElem?_getD, List.getElem?_eq_getElem hlt]; rfl
      rw [e1] at hx
      have hst := sizes_take l j hlt
      have hsl := sizes_le l (j + 1)
      have HST := Aside0.mk hst
      have hb : sizesOf (l.take j) + l[j].length ≤ 1000000 := by have := HS.out; omega
      generalize l[j].length = m at hx hst HST hb
      generalize sizesOf (l.take j) = sj at hst HST hb ⊢
      have d5 : decide (((sj : Int) + (m : Int)) < 0) = false := decide_eq_false (by omega)
      clear hx2 hx3 e1 hst hsl
      go_wp2
      go_roundg (l.length - (j + 1))
      case measure => omega
      case rel => exact ⟨j + 1, by omega, rfl, by first | rfl | rw [wrap_succ (by omega)], by rw [HST.out]; rfl, rfl⟩
    · obtain rfl : j = l.length := by omega
      have d1 : decide ((l.length : Int) < (l.length : Int)) = false := decide_eq_false (by omega)
      rw [List.take_length]
      go_wp2_with fail
      refine (HG.out _).mono ?_
      rintro e w1 ⟨v1, rfl, ho1, hb1⟩
      obtain ⟨vA, vc, rfl⟩ := own_len ho1
      have HO1 := Aside0.mk ho1
      have HB1 := Aside0.mk hb1
      clear ho1 hb1 HG
      go_wp2
      go_loopg [6, 27] l.length (fun gk v6 v27 w' => ∃ j : Nat, j ≤ l.length ∧ gk = l.length - j ∧ v27 = .int .i64 (j : Int) ∧ Aside0 (w'.ownsRow w.heap.size 3 1 v6 (l.take j).flatten.length (nums .i64 (l.take j).flatten)) ∧ Aside0 (Below w.heap.size w w'))
      case atStart => exact ⟨0, Nat.zero_le _, rfl, rfl, HO1, HB1⟩
      case round =>
        obtain ⟨j, hj, rfl, rfl, HO, HB⟩ := hrel
        by_cases hlt : j < l.length
        · have d1 : decide ((j : Int) < (l.length : Int)) = true := decide_eq_true (by omega)
          have d2 : decide (j < l.length) = true := decide_eq_true hlt
          have d4 : (0 : Int) ≤ (j : Int) := by omega
          obtain ⟨ad, A1, c3, e, hx, hx2, hx3⟩ := at_L1 HR.out (j : Int) (by omega) (by omega)
          cases e
          rw [Int.toNat_natCast, rd_L1_nat] at hx
          rw [rd_L1_nat] at hx2 hx3
          have e1 : l.getD j [] = l[j] := by rw [List.getD_eq_getElem?_getD, List.getElem?_eq_getElem hlt]; rfl
          rw [e1] at hx hx2 hx3
          replace hx := (HB.out.cell (World.block_lt_of_cell? w _ hx)).trans hx
          have HX3 := Aside0.mk (Kd.C_below hx3 HB.out)
          have hft := flatten_take l j hlt
          have HFT := Aside0.mk hft
          have hsz : ((l.take j).flatten.length + l[j].length) * 8 ≤ 140737488355328 := by
            have h1 := flatten_size (l.take (j + 1))
            rw [hft, List.length_append] at h1
            have := sizes_le l (j + 1)
            have := HS.out
            omega
          have HSZ := Aside0.mk hsz
          generalize l[j] = y at hx hx2 HX3 HFT HSZ
          clear hx3 e1 hft hsz
          obtain ⟨vA, vc, rfl⟩ := own_len HO.out
          go_wp2_with (at_builtin; refine print_append_row (w0 := w) w.heap.size rfl _ _ 23 3 .i64 8 rfl (by kernel_rfl) (by kernel_rfl) (by decide) _ (l.take j).flatten y A1 y.length c3 rfl rfl HO.out (ReadsInt_of_C HX3.out) HB.out HB.out.size HSZ.out ?_; intro v1 w2 h1 hB1 hg hat; have HO2 := Aside0.mk h1; have HB2 := Aside0.mk hB1; clear h1 hB1 hg hat)
          go_roundg (l.length - (j + 1))
          case measure => omega
          case rel => exact ⟨j + 1, by omega, rfl, by first | rfl | rw [wrap_succ (by omega)], ⟨by rw [HFT.out]; exact HO2.out⟩, HB2⟩
        · obtain rfl : j = l.length := by omega
          have d1 : decide ((l.length : Int) < (l.length : Int)) = false := decide_eq_false (by omega)
          have ho := HO.out
          rw [List.take_length] at ho
          have HO2 := Aside0.mk ho
          clear ho
          go_wp2
          go_ret
          exact ⟨_, rfl, HO2.out, HB.out⟩
def slices_Concat_int_int.f (l0 : List (List Int)) : Option (List Int) := if sizesOf l0 ≤ 1000000 then some l0.flatten else none
theorem slices_Concat_int_int.calls (A0 : Option Addr) (c0 : Nat) (l0 : List (List Int)) (r : List Int) (w : World) (hr0 : Kd.C (Kd.slice 3 (Kd.int .i64)) w A0 l0.length l0) (hc0 : l0.length ≤ c0) (h : slices_Concat_int_int.f l0 = some r) :
    Calls Try.prog 85 #[.slice A0 l0.length c0] w fun e w' => ∃ v0_ : Value, e = .returned v0_ ∧ Kd.R (Kd.int .i64) 3 w' w.heap.size (fun _ => True) v0_ r ∧ Below w.heap.size w w' := by
  unfold slices_Concat_int_int.f at h
  split at h
  · cases h
    refine (concat_c A0 c0 l0 w hr0 (by assumption)).mono ?_
    rintro e w' ⟨v, he, ho, hb⟩
    exact ⟨v, he, R_of_owns ho (fun _ _ => trivial), hb⟩
  · cases h
end Go.Proofs.Ytdbamhckgaoibaa.P
namespace Go.Proofs.Ytdbamhckgaoibaa.P
open Go.RowKit Go.Proofs.YtdbamhckgaoibaaW.PrintWords Go.Proofs.YtdbamhckgaoibaaW.PrintLast Go.Proofs.YtdbamhckgaoibaaW.PrintMore
set_option linter.unusedVariables false
def dealQ (rows : List (List Int)) (owners : List Int) (secret : Int) (random : List Int) : List S38 × List Int × Int :=
  if checkP rows owners = 0 then (if inQ secret && !random.any outQ && decide (random.length + 1 = colsP rows) then (sharesQ rows (secret :: random), (secret :: random).map commitQ, 0) else ([], [], 1)) else ([], [], checkP rows owners)
theorem numbers_w {A : Option Addr} {c : Nat} {l : List Int} {W : World} (h : Sl (Kd.int .i64) W A c l) : Calls Try.prog 83 #[.slice A l.length c] W fun e w' => e = .returned (.bool (!l.any outQ)) ∧ Below W.heap.size W w' :=
  (dealing_numbers.calls A c l (!l.any outQ) W h.rd h.le (by unfold dealing_numbers.f contains_outQ.f; rfl)).mono fun _ _ h => ⟨h.1, h.2.below⟩
theorem cols_le {rows : List (List Int)} {owners : List Int} (h : checkP rows owners = 0) : colsP rows ≤ 64 := by
  have hP := check_ok h
  unfold colsP
  split
  · decide
  · exact (hP.row 0 (by omega)).2.2.1
theorem deal_row {rows : List (List Int)} {owners : List Int} (h : checkP rows owners = 0) {secret : Int} {random s : List Int} (hn : random.length + 1 = colsP rows) (hs : s = secret :: random) {i : Nat} (hi : i < rows.length) : (rows.getD i []).length ≤ s.length := by
  have hP := check_ok h
  have h1 := (hP.row i hi).2.1
  rw [hs, List.length_cons, hn, colsP, if_neg (by omega), h1]
  exact Nat.le_refl _
set_option maxRecDepth 100000 in
set_option maxHeartbeats 8000000 in
theorem deal_w {A0 A1 A2 : Option Addr} {c0 c1 c2 : Nat} {rows : List (List Int)} {owners : List Int} {secret : Int} {random : List Int} {w : World} (h0 : Sl (Kd.slice 3 (Kd.int .i64)) w A0 c0 rows) (h1 : Sl (Kd.int .i64) w A1 c1 owners) (h2 : Sl (Kd.int .i64) w A2 c2 random) :
    Calls Try.prog 22 #[.agg #[.slice A0 rows.length c0, .slice A1 owners.length c1], .int .i64 secret, .slice A2 random.length c2] w fun e w' => ∃ v0_ v1_ : Value, e = .returned (.tuple #[v0_, v1_, .int .i64 (dealQ rows owners secret random).2.2]) ∧
      Kd.R k38 38 w' w.heap.size (fun k_ => (w.heap.size ≤ k_)) v0_ (dealQ rows owners secret random).1 ∧ Kd.R (Kd.int .i64) 3 w' w.heap.size (fun k_ => (w.heap.size ≤ k_)) v1_ (dealQ rows owners secret random).2.1 ∧ Below w.heap.size w w' := by
  have H_rows := Aside0.mk h0
  have H_own := Aside0.mk h1
  have H_rnd := Aside0.mk h2
  have HB := Aside0.mk (Below.refl w.heap.size w)
  clear h0 h1 h2
  obtain ⟨t, ht⟩ : ∃ t, t = checkP rows owners := ⟨_, rfl⟩
  have HK : Aside0 (∀ W, Sl (Kd.slice 3 (Kd.int .i64)) W A0 c0 rows → Sl (Kd.int .i64) W A1 c1 owners → Calls Try.prog 82 #[.agg #[.slice A0 rows.length c0, .slice A1 owners.length c1]] W fun e w' => e = .returned (.int .i64 t) ∧ Below W.heap.size W w') := ⟨fun W g0 g1 => by rw [ht]; exact program_Check.calls 66 A0 c0 rows A1 c1 owners _ W g0.rd g0.le g1.rd g1.le (check_math rows owners 66 (Nat.le_refl _))⟩
  rcases Decidable.em (t = 0) with h | h
  · skip
    have hd0 : checkP rows owners = 0 := ht.symm.trans h
    clear ht
    subst h
    cases hq1 : inQ secret with
    | false =>
      have HF : Aside0 (dealQ rows owners secret random = ([], [], 1)) := ⟨by unfold dealQ; rw [if_pos hd0, hq1]; rfl⟩
      have HS1 := Aside0.mk ((inQ_not secret).trans hq1); clear hq1 hd0
      go_enter Try.func22, Try.ntmps22
      go_wp2_with fail
      obtain ⟨w1, hw⟩ : ∃ W_, W_ = w.alloc (.cells #[.slice A0 rows.length c0, .slice A1 owners.length c1] 25) := ⟨_, rfl⟩
      rw [← hw]
      have hb : Below w.heap.size w w1 := by rw [hw]; exact below_alloc1 _ _
      have hz : w.heap.size = w.heap.size := rfl
      have hs : w1.heap.size = w.heap.size + 1 := by rw [hw, ← hz]; simp
      replace H_rows := Aside0.mk (H_rows.out.below hb)
      replace H_own := Aside0.mk (H_own.out.below hb)
      replace H_rnd := Aside0.mk (H_rnd.out.below hb)
      replace HB := Aside0.mk (below_then HB.out HB.out.size hb)
      have H_two0 := Aside0.mk (⟨by rw [hw, ← hz]; simp only [World.cell?]; rw [World.alloc_heap_new]; rfl, by rw [hs]; omega⟩ : w1.cell? ⟨w.heap.size, 0, none⟩ = some (.slice A0 rows.length c0) ∧ w.heap.size < w1.heap.size)
      have H_two1 := Aside0.mk (⟨by rw [hw, ← hz]; simp only [World.cell?]; rw [World.alloc_heap_new]; rfl, by rw [hs]; omega⟩ : w1.cell? ⟨w.heap.size, 1, none⟩ = some (.slice A1 owners.length c1) ∧ w.heap.size < w1.heap.size)
      clear hw hb hz
      have HZ := Aside0.mk hs; clear hs
      refine (HK.out _ H_rows.out H_own.out).mono ?_
      rintro e w2 ⟨rfl, hb⟩
      replace H_rows := Aside0.mk (H_rows.out.below hb)
      replace H_own := Aside0.mk (H_own.out.below hb)
      replace H_rnd := Aside0.mk (H_rnd.out.below hb)
      replace H_two0 := Aside0.mk (cell_on H_two0.out hb)
      replace H_two1 := Aside0.mk (cell_on H_two1.out hb)
      replace HB := Aside0.mk (below_then HB.out HB.out.size hb)
      clear hb
      go_wp2_with fail
      obtain ⟨w3, hw⟩ : ∃ W_, W_ = w2.alloc (.cells #[.int .i64 secret] 3) := ⟨_, rfl⟩
      rw [← hw]
      have hb : Below w2.heap.size w2 w3 := by rw [hw]; exact below_alloc1 _ _
      have hz : w2.heap.size = w2.heap.size := rfl
      have hs : w3.heap.size = w2.heap.size + 1 := by rw [hw, ← hz]; simp
      have hl : Sl (Kd.int .i64) w3 (some ⟨w2.heap.size, 0, none⟩) 1 [secret] := by rw [hw, ← hz]; exact Sl.ints w2 3 [secret] (by show 1 ≤ 1000000; decide)
      replace H_rows := Aside0.mk (H_rows.out.below hb)
      replace H_own := Aside0.mk (H_own.out.below hb)
      replace H_rnd := Aside0.mk (H_rnd.out.below hb)
      replace H_two0 := Aside0.mk (cell_on H_two0.out hb)
      replace H_two1 := Aside0.mk (cell_on H_two1.out hb)
      replace HB := Aside0.mk (below_then HB.out HB.out.size hb)
      have H_s1 := Aside0.mk hl; clear hl
      clear hw hb hz
      have HZ := Aside0.mk hs; clear hs
      have HQ := numbers_w H_s1.out
      rw [HS1.out] at HQ
      refine (HQ).mono ?_
      rintro e w4 ⟨rfl, hb⟩
      replace H_rows := Aside0.mk (H_rows.out.below hb)
      replace H_own := Aside0.mk (H_own.out.below hb)
      replace H_rnd := Aside0.mk (H_rnd.out.below hb)
      replace H_two0 := Aside0.mk (cell_on H_two0.out hb)
      replace H_two1 := Aside0.mk (cell_on H_two1.out hb)
      clear H_s1
      replace HB := Aside0.mk (below_then HB.out HB.out.size hb)
      clear hb
      clear HQ
      go_wp2
      go_ret3
      rw [HF.out]
      exact ⟨_, _, rfl, Kd.R_nil _ _ _ _ _, Kd.R_nil _ _ _ _ _, HB.out⟩
    | true =>
      have HS1 := Aside0.mk ((inQ_not secret).trans hq1)
      cases hq2 : random.any outQ with
      | true =>
        have HF : Aside0 (dealQ rows owners secret random = ([], [], 1)) := ⟨by unfold dealQ; rw [if_pos hd0, hq1, hq2]; rfl⟩
        have HS2 := Aside0.mk (congrArg not hq2); clear hq1 hq2 hd0
        go_enter Try.func22, Try.ntmps22
        go_wp2_with fail
        obtain ⟨w1, hw⟩ : ∃ W_, W_ = w.alloc (.cells #[.slice A0 rows.length c0, .slice A1 owners.length c1] 25) := ⟨_, rfl⟩
        rw [← hw]
        have hb : Below w.heap.size w w1 := by rw [hw]; exact below_alloc1 _ _
        have hz : w.heap.size = w.heap.size := rfl
        have hs : w1.heap.size = w.heap.size + 1 := by rw [hw, ← hz]; simp
        replace H_rows := Aside0.mk (H_rows.out.below hb)
        replace H_own := Aside0.mk (H_own.out.below hb)
        replace H_rnd := Aside0.mk (H_rnd.out.below hb)
        replace HB := Aside0.mk (below_then HB.out HB.out.size hb)
        have H_two0 := Aside0.mk (⟨by rw [hw, ← hz]; simp only [World.cell?]; rw [World.alloc_heap_new]; rfl, by rw [hs]; omega⟩ : w1.cell? ⟨w.heap.size, 0, none⟩ = some (.slice A0 rows.length c0) ∧ w.heap.size < w1.heap.size)
        have H_two1 := Aside0.mk (⟨by rw [hw, ← hz]; simp only [World.cell?]; rw [World.alloc_heap_new]; rfl, by rw [hs]; omega⟩ : w1.cell? ⟨w.heap.size, 1, none⟩ = some (.slice A1 owners.length c1) ∧ w.heap.size < w1.heap.size)
        clear hw hb hz
        have HZ := Aside0.mk hs; clear hs
        refine (HK.out _ H_rows.out H_own.out).mono ?_
        rintro e w2 ⟨rfl, hb⟩
        replace H_rows := Aside0.mk (H_rows.out.below hb)
        replace H_own := Aside0.mk (H_own.out.below hb)
        replace H_rnd := Aside0.mk (H_rnd.out.below hb)
        replace H_two0 := Aside0.mk (cell_on H_two0.out hb)
        replace H_two1 := Aside0.mk (cell_on H_two1.out hb)
        replace HB := Aside0.mk (below_then HB.out HB.out.size hb)
        clear hb
        go_wp2_with fail
        obtain ⟨w3, hw⟩ : ∃ W_, W_ = w2.alloc (.cells #[.int .i64 secret] 3) := ⟨_, rfl⟩
        rw [← hw]
        have hb : Below w2.heap.size w2 w3 := by rw [hw]; exact below_alloc1 _ _
        have hz : w2.heap.size = w2.heap.size := rfl
        have hs : w3.heap.size = w2.heap.size + 1 := by rw [hw, ← hz]; simp
        have hl : Sl (Kd.int .i64) w3 (some ⟨w2.heap.size, 0, none⟩) 1 [secret] := by rw [hw, ← hz]; exact Sl.ints w2 3 [secret] (by show 1 ≤ 1000000; decide)
        replace H_rows := Aside0.mk (H_rows.out.below hb)
        replace H_own := Aside0.mk (H_own.out.below hb)
        replace H_rnd := Aside0.mk (H_rnd.out.below hb)
        replace H_two0 := Aside0.mk (cell_on H_two0.out hb)
        replace H_two1 := Aside0.mk (cell_on H_two1.out hb)
        replace HB := Aside0.mk (below_then HB.out HB.out.size hb)
        have H_s1 := Aside0.mk hl; clear hl
        clear hw hb hz
        have HZ := Aside0.mk hs; clear hs
        have HQ := numbers_w H_s1.out
        rw [HS1.out] at HQ
        refine (HQ).mono ?_
        rintro e w4 ⟨rfl, hb⟩
        replace H_rows := Aside0.mk (H_rows.out.below hb)
        replace H_own := Aside0.mk (H_own.out.below hb)
        replace H_rnd := Aside0.mk (H_rnd.out.below hb)
        replace H_two0 := Aside0.mk (cell_on H_two0.out hb)
        replace H_two1 := Aside0.mk (cell_on H_two1.out hb)
        clear H_s1
        replace HB := Aside0.mk (below_then HB.out HB.out.size hb)
        clear hb
        clear HQ
        go_wp2_with fail
        have HQ := numbers_w H_rnd.out
        rw [HS2.out] at HQ
        refine (HQ).mono ?_
        rintro e w5 ⟨rfl, hb⟩
        replace H_rows := Aside0.mk (H_rows.out.below hb)
        replace H_own := Aside0.mk (H_own.out.below hb)
        replace H_rnd := Aside0.mk (H_rnd.out.below hb)
        replace H_two0 := Aside0.mk (cell_on H_two0.out hb)
        replace H_two1 := Aside0.mk (cell_on H_two1.out hb)
        replace HB := Aside0.mk (below_then HB.out HB.out.size hb)
        clear hb
        clear HQ
        go_wp2
        go_ret3
        rw [HF.out]
        exact ⟨_, _, rfl, Kd.R_nil _ _ _ _ _, Kd.R_nil _ _ _ _ _, HB.out⟩
      | false =>
        have HS2 := Aside0.mk (congrArg not hq2)
        have hcl := cols_le hd0
        by_cases hn : random.length + 1 = colsP rows
        · skip
          have HF : Aside0 (dealQ rows owners secret random = (sharesQ rows (secret :: random), (secret :: random).map commitQ, 0)) := ⟨by unfold dealQ; rw [if_pos hd0, hq1, hq2, decide_eq_true hn]; rfl⟩
          have HL := Aside0.mk (And.intro hcl hn)
          have HNC := Aside0.mk hn
          have HD0 := Aside0.mk hd0
          have HC := Aside0.mk (fun W (g0 : Sl (Kd.slice 3 (Kd.int .i64)) W A0 c0 rows) (g1 : Sl (Kd.int .i64) W A1 c1 owners) => dealing_columns.calls A0 c0 rows A1 c1 owners (colsP rows : Int) W g0.rd g0.le g1.rd g1.le cols_math)
          clear hq1 hq2 hd0 hcl hn
          go_enter Try.func22, Try.ntmps22
          go_wp2_with fail
          obtain ⟨w1, hw⟩ : ∃ W_, W_ = w.alloc (.cells #[.slice A0 rows.length c0, .slice A1 owners.length c1] 25) := ⟨_, rfl⟩
          rw [← hw]
          have hb : Below w.heap.size w w1 := by rw [hw]; exact below_alloc1 _ _
          have hz : w.heap.size = w.heap.size := rfl
          have hs : w1.heap.size = w.heap.size + 1 := by rw [hw, ← hz]; simp
          replace H_rows := Aside0.mk (H_rows.out.below hb)
          replace H_own := Aside0.mk (H_own.out.below hb)
          replace H_rnd := Aside0.mk (H_rnd.out.below hb)
          replace HB := Aside0.mk (below_then HB.out HB.out.size hb)
          have H_two0 := Aside0.mk (⟨by rw [hw, ← hz]; simp only [World.cell?]; rw [World.alloc_heap_new]; rfl, by rw [hs]; omega⟩ : w1.cell? ⟨w.heap.size, 0, none⟩ = some (.slice A0 rows.length c0) ∧ w.heap.size < w1.heap.size)
          have H_two1 := Aside0.mk (⟨by rw [hw, ← hz]; simp only [World.cell?]; rw [World.alloc_heap_new]; rfl, by rw [hs]; omega⟩ : w1.cell? ⟨w.heap.size, 1, none⟩ = some (.slice A1 owners.length c1) ∧ w.heap.size < w1.heap.size)
          clear hw hb hz
          have HZ := Aside0.mk hs; clear hs
          refine (HK.out _ H_rows.out H_own.out).mono ?_
          rintro e w2 ⟨rfl, hb⟩
          replace H_rows := Aside0.mk (H_rows.out.below hb)
          replace H_own := Aside0.mk (H_own.out.below hb)
          replace H_rnd := Aside0.mk (H_rnd.out.below hb)
          replace H_two0 := Aside0.mk (cell_on H_two0.out hb)
          replace H_two1 := Aside0.mk (cell_on H_two1.out hb)
          replace HB := Aside0.mk (below_then HB.out HB.out.size hb)
          clear hb
          go_wp2_with fail
          obtain ⟨w3, hw⟩ : ∃ W_, W_ = w2.alloc (.cells #[.int .i64 secret] 3) := ⟨_, rfl⟩
          rw [← hw]
          have hb : Below w2.heap.size w2 w3 := by rw [hw]; exact below_alloc1 _ _
          have hz : w2.heap.size = w2.heap.size := rfl
          have hs : w3.heap.size = w2.heap.size + 1 := by rw [hw, ← hz]; simp
          have hl : Sl (Kd.int .i64) w3 (some ⟨w2.heap.size, 0, none⟩) 1 [secret] := by rw [hw, ← hz]; exact Sl.ints w2 3 [secret] (by show 1 ≤ 1000000; decide)
          replace H_rows := Aside0.mk (H_rows.out.below hb)
          replace H_own := Aside0.mk (H_own.out.below hb)
          replace H_rnd := Aside0.mk (H_rnd.out.below hb)
          replace H_two0 := Aside0.mk (cell_on H_two0.out hb)
          replace H_two1 := Aside0.mk (cell_on H_two1.out hb)
          replace HB := Aside0.mk (below_then HB.out HB.out.size hb)
          have H_s1 := Aside0.mk hl; clear hl
          clear hw hb hz
          have HZ := Aside0.mk hs; clear hs
          have HQ := numbers_w H_s1.out
          rw [HS1.out] at HQ
          refine (HQ).mono ?_
          rintro e w4 ⟨rfl, hb⟩
          replace H_rows := Aside0.mk (H_rows.out.below hb)
          replace H_own := Aside0.mk (H_own.out.below hb)
          replace H_rnd := Aside0.mk (H_rnd.out.below hb)
          replace H_two0 := Aside0.mk (cell_on H_two0.out hb)
          replace H_two1 := Aside0.mk (cell_on H_two1.out hb)
          clear H_s1
          replace HB := Aside0.mk (below_then HB.out HB.out.size hb)
          clear hb
          clear HQ
          go_wp2_with fail
          have HQ := numbers_w H_rnd.out
          rw [HS2.out] at HQ
          refine (HQ).mono ?_
          rintro e w5 ⟨rfl, hb⟩
          replace H_rows := Aside0.mk (H_rows.out.below hb)
          replace H_own := Aside0.mk (H_own.out.below hb)
          replace H_rnd := Aside0.mk (H_rnd.out.below hb)
          replace H_two0 := Aside0.mk (cell_on H_two0.out hb)
          replace H_two1 := Aside0.mk (cell_on H_two1.out hb)
          replace HB := Aside0.mk (below_then HB.out HB.out.size hb)
          clear hb
          clear HQ
          have q1 : ((random.length : Int) != wrap64 ((colsP rows : Int) - 1)) = false := bne_eq_false_iff_eq.mpr (by have := HL.out; unfold wrap64; omega)
          have q2 : ((random.length : Int) == wrap64 ((colsP rows : Int) - 1)) = true := beq_iff_eq.mpr (by have := HL.out; unfold wrap64; omega)
          generalize colsP rows = n at HC HL q1 q2
          have x_two0 := H_two0.out.1
          have x_two1 := H_two1.out.1
          go_wp2_with fail
          clear x_two0 x_two1
          refine (HC.out _ H_rows.out H_own.out).mono ?_
          rintro e w6 ⟨rfl, hb⟩
          replace H_rows := Aside0.mk (H_rows.out.below hb)
          clear H_own
          replace H_rnd := Aside0.mk (H_rnd.out.below hb)
          replace H_two0 := Aside0.mk (cell_on H_two0.out hb)
          clear H_two1
          replace HB := Aside0.mk (below_then HB.out HB.out.size hb)
          clear hb
          clear HC
          go_wp2_with fail
          clear q1 q2
          obtain ⟨w7, hw⟩ : ∃ W_, W_ = w6.alloc (.cells #[.int .i64 secret] 3) := ⟨_, rfl⟩
          rw [← hw]
          have hb : Below w6.heap.size w6 w7 := by rw [hw]; exact below_alloc1 _ _
          have hz : w6.heap.size = w6.heap.size := rfl
          have hs : w7.heap.size = w6.heap.size + 1 := by rw [hw, ← hz]; simp
          have hl : Sl (Kd.int .i64) w7 (some ⟨w6.heap.size, 0, none⟩) 1 [secret] := by rw [hw, ← hz]; exact Sl.ints w6 3 [secret] (by show 1 ≤ 1000000; decide)
          replace H_rows := Aside0.mk (H_rows.out.below hb)
          replace H_rnd := Aside0.mk (H_rnd.out.below hb)
          replace H_two0 := Aside0.mk (cell_on H_two0.out hb)
          replace HB := Aside0.mk (below_then HB.out HB.out.size hb)
          have H_s1 := Aside0.mk hl; clear hl
          clear hw hb hz
          have HZ := Aside0.mk hs; clear hs
          obtain ⟨w8, hw⟩ : ∃ W_, W_ = w7.alloc (.cells #[.slice (some ⟨w6.heap.size, 0, none⟩) 1 1, .slice A2 random.length c2] 23) := ⟨_, rfl⟩
          rw [← hw]
          have hb : Below w7.heap.size w7 w8 := by rw [hw]; exact below_alloc1 _ _
          have hz : w7.heap.size = w6.heap.size + 1 := HZ.out
          have hs : w8.heap.size = w6.heap.size + 1 + 1 := by rw [hw, ← hz]; simp
          have hl : Sl (Kd.slice 3 (Kd.int .i64)) w8 (some ⟨w6.heap.size + 1, 0, none⟩) 2 [[secret], random] := by rw [hw, ← hz]; exact Sl.rows w7 23 3 [.slice (some ⟨w6.heap.size, 0, none⟩) 1 1, .slice A2 random.length c2] [[secret], random] (.cons (SlAt.mk_ H_s1.out) (.cons (SlAt.mk_ H_rnd.out) SlsAt.nil)) (by show 2 ≤ 1000000; decide)
          replace H_rows := Aside0.mk (H_rows.out.below hb)
          replace H_rnd := Aside0.mk (H_rnd.out.below hb)
          replace H_two0 := Aside0.mk (cell_on H_two0.out hb)
          replace H_s1 := Aside0.mk (H_s1.out.below hb)
          replace HB := Aside0.mk (below_then HB.out HB.out.size hb)
          have H_both := Aside0.mk hl; clear hl
          clear hw hb hz
          have HZ := Aside0.mk hs; clear hs
          refine (slices_Concat_int_int.calls _ _ [[secret], random] (secret :: random) _ H_both.out.rd H_both.out.le (by unfold slices_Concat_int_int.f; rw [if_pos (by have := HL.out; simp [sizesOf]; omega)]; simp)).mono ?_
          rintro e w9 ⟨v5, rfl, h5, hb⟩
          replace H_rows := Aside0.mk (H_rows.out.below hb)
          clear H_rnd
          replace H_two0 := Aside0.mk (cell_on H_two0.out hb)
          clear H_s1
          clear H_both
          replace HB := Aside0.mk (below_then HB.out HB.out.size hb)
          obtain ⟨As, cs, rfl, hs⟩ := Sl.ofR h5
          have H_s := Aside0.mk hs
          clear hb h5 hs
          obtain ⟨s, hsd⟩ : ∃ s, s = secret :: random := ⟨_, rfl⟩
          rw [← hsd] at H_s HF ⊢
          have HSL : Aside0 (s.length = n ∧ n ≤ 64) := ⟨by rw [hsd, List.length_cons]; have := HL.out; omega⟩
          have HROW : Aside0 (∀ i, i < rows.length → (rows.getD i []).length ≤ s.length) := ⟨fun i hi => deal_row HD0.out HNC.out hsd hi⟩
          clear hsd
          obtain ⟨Wa, hWa⟩ : ∃ W_, W_ = w9 := ⟨_, rfl⟩
          rw [← hWa] at H_rows H_s H_two0 HB ⊢
          clear hWa
          have x0 := H_two0.out.1
          go_wp2_with fail
          clear x0
          go_loopg [6, 47] rows.length (fun gk v6 v47 wr => ∃ i : Nat, i ≤ rows.length ∧ gk = rows.length - i ∧ v47 = .int .i64 (i : Int) ∧ Aside0 (Kd.R k38 38 wr Wa.heap.size (fun k_ => Wa.heap.size ≤ k_) v6 ((List.range i).map (shareQ rows s)) ∧ Below Wa.heap.size Wa wr))
          case atStart => exact ⟨0, Nat.zero_le _, rfl, rfl, ⟨Kd.R_nil _ _ _ _ _, Below.refl _ _⟩⟩
          case round =>
            obtain ⟨i, hi, rfl, rfl, HX⟩ := hrel
            by_cases hlt : i < rows.length
            · have d1 : decide ((i : Int) < (rows.length : Int)) = true := decide_eq_true (by omega)
              have d2 : decide (i < rows.length) = true := decide_eq_true hlt
              have d3 : (0 : Int) ≤ (i : Int) := by omega
              obtain ⟨ar, Ar, cr, e, z1, z2, z3⟩ := at_L1 H_rows.out.rd (i : Int) (by omega) (by omega)
              cases e
              rw [rd_L1_nat] at z1 z2 z3
              rw [Int.toNat_natCast] at z1
              have hbx := HX.out.2
              replace z1 := (hbx.cell (World.block_lt_of_cell? Wa _ z1)).trans z1
              replace z3 := Kd.C_below z3 hbx
              have hss := H_s.out.below hbx
              have hT := fun W (hb : Below wr.heap.size wr W) => dealing_times.calls Ar cr (rows.getD i []) As cs s (Sig.dot (rows.getD i []) s % 1073741789) W (Kd.C_below z3 hb) z2 (Kd.C_below hss.rd hb) hss.le (by unfold dealing_times.f; rw [if_pos (HROW.out i hlt)])
              have hsh : (List.range i).map (shareQ rows s) ++ [⟨(i : Int), Sig.dot (rows.getD i []) s % 1073741789⟩] = (List.range (i + 1)).map (shareQ rows s) := by rw [List.range_succ, List.map_append]; rfl
              have hlen : ((List.range i).map (shareQ rows s)).length = i := by simp
              have hrl : rows.length ≤ 64 := (check_ok HD0.out).few
              have HT := Aside0.mk hT; have HSH := Aside0.mk hsh; have HO := Aside0.mk HX.out.1; have HBX := Aside0.mk hbx; have HLEN := Aside0.mk hlen; have HRL := Aside0.mk hrl
              generalize Sig.dot (rows.getD i []) s % 1073741789 = y at HT HSH
              generalize (List.range i).map (shareQ rows s) = acc at HO HSH HLEN
              generalize (rows.getD i []).length = rl at z1 HT
              clear hT z2 z3 hss hbx hsh hlen HX hrl
              obtain ⟨vA, vc, rfl⟩ := Kd.R_slice HO.out
              go_wp2_with fail
              refine (HT.out _ (Below.refl _ _)).mono ?_
              rintro e wb ⟨rfl, hb⟩
              have HO2 := Aside0.mk (Kd.R_below HO.out hb)
              have HBB := Aside0.mk (below_then HBX.out HBX.out.size hb)
              clear hb z1 HT HO HBX
              go_wp2_with (at_builtin; refine Kd.R_append k38 (w0 := Wa) Wa.heap.size rfl (.tmp 52) (.tmp 58) 26 38 (.agg #[.int .i64 0, .int .i64 0]) 16 rfl (by kernel_rfl) (by kernel_rfl) rfl (by decide) (by decide) (.slice vA acc.length vc) acc ⟨(i : Int), y⟩ [.int .i64 (i : Int), .int .i64 y] (fun k_ => Wa.heap.size ≤ k_) (fun _ => False) rfl rfl (k38_mkM _ _ _ ⟨(i : Int), y⟩) (fun _ hk => hk.elim) (fun k hk => Nat.le_trans HBB.out.size hk) HO2.out HBB.out HBB.out.size (by have := HLEN.out; have := HRL.out; omega) ?_; intro v1 wc ho hbc hg hat; have HO3 := Aside0.mk ho; have HB3 := Aside0.mk hbc; clear ho hbc hg hat)
              go_roundg (rows.length - (i + 1))
              case measure => omega
              case rel => exact ⟨i + 1, by omega, rfl, by first | rfl | rw [wrap_succ (by have := HRL.out; omega)], ⟨by rw [← HSH.out]; exact HO3.out, HB3.out⟩⟩
            · obtain rfl : i = rows.length := by omega
              have d1 : decide ((rows.length : Int) < (rows.length : Int)) = false := decide_eq_false (by omega)
              have HO := Aside0.mk (show Kd.R k38 38 wr Wa.heap.size (fun k_ => Wa.heap.size ≤ k_) _ (sharesQ rows s) from HX.out.1)
              have H_s2 := Aside0.mk (H_s.out.below HX.out.2)
              have HB2 := Aside0.mk (below_then HB.out HB.out.size HX.out.2)
              have HGE := Aside0.mk (Nat.le_trans HB.out.size HX.out.2.size)
              have HGE0 := Aside0.mk HB.out.size
              clear H_s H_rows HB H_two0 HX HROW
              obtain ⟨vA, vc, rfl⟩ := Kd.R_slice HO.out
              generalize wr = Wb at HO H_s2 HB2 HGE HGE0 ⊢
              go_wp2_with fail
              go_loopg [6, 7, 63] s.length (fun gk v6 v7 v63 wq => v6 = .slice vA (sharesQ rows s).length vc ∧ ∃ j : Nat, j ≤ s.length ∧ gk = s.length - j ∧ v63 = .int .i64 (j : Int) ∧ Aside0 (Kd.R (Kd.int .i64) 3 wq Wb.heap.size (fun k_ => Wb.heap.size ≤ k_) v7 ((s.take j).map commitQ) ∧ Below Wb.heap.size Wb wq))
              case atStart => exact ⟨rfl, 0, Nat.zero_le _, rfl, rfl, ⟨Kd.R_nil _ _ _ _ _, Below.refl _ _⟩⟩
              case round =>
                obtain ⟨rfl, j, hj, rfl, rfl, HX⟩ := hrel
                by_cases hlt : j < s.length
                · have e1 : decide ((j : Int) < (s.length : Int)) = true := decide_eq_true (by omega)
                  have e2 : decide (j < s.length) = true := decide_eq_true hlt
                  have e3 : (0 : Int) ≤ (j : Int) := by omega
                  obtain ⟨as_, e, y1⟩ := Kd.at_int H_s2.out.rd (j : Int) (by omega) (by omega)
                  cases e
                  rw [rd_nat, Int.toNat_natCast] at y1
                  replace y1 := (HX.out.2.cell (World.block_lt_of_cell? _ _ y1)).trans y1
                  have htk : (s.take j).map commitQ ++ [commitQ (s.getD j 0)] = (s.take (j + 1)).map commitQ := by rw [List.take_succ_eq_append_getElem hlt, List.map_append, List.getD_eq_getElem?_getD, List.getElem?_eq_getElem hlt]; rfl
                  have hlen : ((s.take j).map commitQ).length = j := by rw [List.length_map, List.length_take]; omega
                  have HTK := Aside0.mk htk; have HQ := Aside0.mk HX.out.1; have HBX := Aside0.mk HX.out.2; have HLEN := Aside0.mk hlen
                  generalize s.getD j 0 = x at y1 HTK
                  generalize (s.take j).map commitQ = acc at HQ HTK HLEN
                  clear htk hlen HX
                  obtain ⟨vB, vd, rfl⟩ := Kd.R_slice HQ.out
                  go_wp2_with fail
                  refine (group_Pow.calls 4 x _ _ _ (pow_four x)).mono ?_
                  rintro e wb ⟨rfl, hb⟩
                  have HQ2 := Aside0.mk (Kd.R_below HQ.out hb)
                  have HBB := Aside0.mk (below_then HBX.out HBX.out.size hb)
                  clear hb y1 HQ HBX
                  generalize commitQ x = y at HTK ⊢
                  go_wp2_with (at_builtin; refine Kd.R_append (Kd.int .i64) (w0 := Wb) Wb.heap.size rfl (.tmp 75) (.tmp 77) 23 3 (.int .i64 0) 8 rfl (by kernel_rfl) (by kernel_rfl) rfl (by decide) (by decide) (.slice vB acc.length vd) acc y [.int .i64 y] (fun k_ => Wb.heap.size ≤ k_) (fun _ => False) rfl rfl rfl (fun _ hk => hk.elim) (fun k hk => Nat.le_trans HBB.out.size hk) HQ2.out HBB.out HBB.out.size (by have := HLEN.out; have := HSL.out; omega) ?_; intro v1 wc ho hbc hg hat; have HQ3 := Aside0.mk ho; have HB3 := Aside0.mk hbc; clear ho hbc hg hat)
                  go_roundg (s.length - (j + 1))
                  case measure => omega
                  case rel => exact ⟨rfl, j + 1, by omega, rfl, by first | rfl | rw [wrap_succ (by have := HSL.out; omega)], ⟨by rw [← HTK.out]; exact HQ3.out, HB3.out⟩⟩
                · obtain rfl : j = s.length := by omega
                  have e1 : decide ((s.length : Int) < (s.length : Int)) = false := decide_eq_false (by omega)
                  have hx := HX.out.1
                  rw [List.take_length] at hx
                  have HQ := Aside0.mk hx; have HBX := Aside0.mk HX.out.2; clear hx HX
                  obtain ⟨vB, vd, rfl⟩ := Kd.R_slice HQ.out
                  go_wp2
                  go_ret3
                  rw [HF.out]
                  exact ⟨_, _, rfl, Kd.R_mono (Kd.R_lower (Kd.R_below HO.out HBX.out) HGE0.out) (fun k hk => Nat.le_trans HGE0.out hk), Kd.R_mono (Kd.R_lower HQ.out HGE.out) (fun k hk => Nat.le_trans HGE.out hk), below_then HB2.out HB2.out.size HBX.out⟩
        · skip
          have HF : Aside0 (dealQ rows owners secret random = ([], [], 1)) := ⟨by unfold dealQ; rw [if_pos hd0, hq1, hq2, decide_eq_false hn]; rfl⟩
          have HC := Aside0.mk (fun W (g0 : Sl (Kd.slice 3 (Kd.int .i64)) W A0 c0 rows) (g1 : Sl (Kd.int .i64) W A1 c1 owners) => dealing_columns.calls A0 c0 rows A1 c1 owners (colsP rows : Int) W g0.rd g0.le g1.rd g1.le cols_math)
          have HL := Aside0.mk (And.intro hcl hn)
          clear hq1 hq2 hd0 hcl hn
          go_enter Try.func22, Try.ntmps22
          go_wp2_with fail
          obtain ⟨w1, hw⟩ : ∃ W_, W_ = w.alloc (.cells #[.slice A0 rows.length c0, .slice A1 owners.length c1] 25) := ⟨_, rfl⟩
          rw [← hw]
          have hb : Below w.heap.size w w1 := by rw [hw]; exact below_alloc1 _ _
          have hz : w.heap.size = w.heap.size := rfl
          have hs : w1.heap.size = w.heap.size + 1 := by rw [hw, ← hz]; simp
          replace H_rows := Aside0.mk (H_rows.out.below hb)
          replace H_own := Aside0.mk (H_own.out.below hb)
          replace H_rnd := Aside0.mk (H_rnd.out.below hb)
          replace HB := Aside0.mk (below_then HB.out HB.out.size hb)
          have H_two0 := Aside0.mk (⟨by rw [hw, ← hz]; simp only [World.cell?]; rw [World.alloc_heap_new]; rfl, by rw [hs]; omega⟩ : w1.cell? ⟨w.heap.size, 0, none⟩ = some (.slice A0 rows.length c0) ∧ w.heap.size < w1.heap.size)
          have H_two1 := Aside0.mk (⟨by rw [hw, ← hz]; simp only [World.cell?]; rw [World.alloc_heap_new]; rfl, by rw [hs]; omega⟩ : w1.cell? ⟨w.heap.size, 1, none⟩ = some (.slice A1 owners.length c1) ∧ w.heap.size < w1.heap.size)
          clear hw hb hz
          have HZ := Aside0.mk hs; clear hs
          refine (HK.out _ H_rows.out H_own.out).mono ?_
          rintro e w2 ⟨rfl, hb⟩
          replace H_rows := Aside0.mk (H_rows.out.below hb)
          replace H_own := Aside0.mk (H_own.out.below hb)
          replace H_rnd := Aside0.mk (H_rnd.out.below hb)
          replace H_two0 := Aside0.mk (cell_on H_two0.out hb)
          replace H_two1 := Aside0.mk (cell_on H_two1.out hb)
          replace HB := Aside0.mk (below_then HB.out HB.out.size hb)
          clear hb
          go_wp2_with fail
          obtain ⟨w3, hw⟩ : ∃ W_, W_ = w2.alloc (.cells #[.int .i64 secret] 3) := ⟨_, rfl⟩
          rw [← hw]
          have hb : Below w2.heap.size w2 w3 := by rw [hw]; exact below_alloc1 _ _
          have hz : w2.heap.size = w2.heap.size := rfl
          have hs : w3.heap.size = w2.heap.size + 1 := by rw [hw, ← hz]; simp
          have hl : Sl (Kd.int .i64) w3 (some ⟨w2.heap.size, 0, none⟩) 1 [secret] := by rw [hw, ← hz]; exact Sl.ints w2 3 [secret] (by show 1 ≤ 1000000; decide)
          replace H_rows := Aside0.mk (H_rows.out.below hb)
          replace H_own := Aside0.mk (H_own.out.below hb)
          replace H_rnd := Aside0.mk (H_rnd.out.below hb)
          replace H_two0 := Aside0.mk (cell_on H_two0.out hb)
          replace H_two1 := Aside0.mk (cell_on H_two1.out hb)
          replace HB := Aside0.mk (below_then HB.out HB.out.size hb)
          have H_s1 := Aside0.mk hl; clear hl
          clear hw hb hz
          have HZ := Aside0.mk hs; clear hs
          have HQ := numbers_w H_s1.out
          rw [HS1.out] at HQ
          refine (HQ).mono ?_
          rintro e w4 ⟨rfl, hb⟩
          replace H_rows := Aside0.mk (H_rows.out.below hb)
          replace H_own := Aside0.mk (H_own.out.below hb)
          replace H_rnd := Aside0.mk (H_rnd.out.below hb)
          replace H_two0 := Aside0.mk (cell_on H_two0.out hb)
          replace H_two1 := Aside0.mk (cell_on H_two1.out hb)
          clear H_s1
          replace HB := Aside0.mk (below_then HB.out HB.out.size hb)
          clear hb
          clear HQ
          go_wp2_with fail
          have HQ := numbers_w H_rnd.out
          rw [HS2.out] at HQ
          refine (HQ).mono ?_
          rintro e w5 ⟨rfl, hb⟩
          replace H_rows := Aside0.mk (H_rows.out.below hb)
          replace H_own := Aside0.mk (H_own.out.below hb)
          replace H_rnd := Aside0.mk (H_rnd.out.below hb)
          replace H_two0 := Aside0.mk (cell_on H_two0.out hb)
          replace H_two1 := Aside0.mk (cell_on H_two1.out hb)
          replace HB := Aside0.mk (below_then HB.out HB.out.size hb)
          clear hb
          clear HQ
          have q1 : ((random.length : Int) != wrap64 ((colsP rows : Int) - 1)) = true := bne_iff_ne.mpr (by have := HL.out; unfold wrap64; omega)
          have q2 : ((random.length : Int) == wrap64 ((colsP rows : Int) - 1)) = false := beq_eq_false_iff_ne.mpr (by have := HL.out; unfold wrap64; omega)
          generalize colsP rows = n at HC HL q1 q2
          have x_two0 := H_two0.out.1
          have x_two1 := H_two1.out.1
          go_wp2_with fail
          clear x_two0 x_two1
          refine (HC.out _ H_rows.out H_own.out).mono ?_
          rintro e w6 ⟨rfl, hb⟩
          replace H_rows := Aside0.mk (H_rows.out.below hb)
          replace H_own := Aside0.mk (H_own.out.below hb)
          replace H_rnd := Aside0.mk (H_rnd.out.below hb)
          replace H_two0 := Aside0.mk (cell_on H_two0.out hb)
          replace H_two1 := Aside0.mk (cell_on H_two1.out hb)
          replace HB := Aside0.mk (below_then HB.out HB.out.size hb)
          clear hb
          go_wp2
          go_ret3
          rw [HF.out]
          exact ⟨_, _, rfl, Kd.R_nil _ _ _ _ _, Kd.R_nil _ _ _ _ _, HB.out⟩
  · skip
    have HF : Aside0 (dealQ rows owners secret random = ([], [], t)) := ⟨by unfold dealQ; rw [← ht, if_neg h]⟩
    clear ht
    have q1 : (t == 0) = false := beq_eq_false_iff_ne.mpr h
    have q2 : (t != 0) = true := bne_iff_ne.mpr h
    go_enter Try.func22, Try.ntmps22
    go_wp2_with fail
    obtain ⟨w1, hw⟩ : ∃ W_, W_ = w.alloc (.cells #[.slice A0 rows.length c0, .slice A1 owners.length c1] 25) := ⟨_, rfl⟩
    rw [← hw]
    have hb : Below w.heap.size w w1 := by rw [hw]; exact below_alloc1 _ _
    have hz : w.heap.size = w.heap.size := rfl
    have hs : w1.heap.size = w.heap.size + 1 := by rw [hw, ← hz]; simp
    replace H_rows := Aside0.mk (H_rows.out.below hb)
    replace H_own := Aside0.mk (H_own.out.below hb)
    replace H_rnd := Aside0.mk (H_rnd.out.below hb)
    replace HB := Aside0.mk (below_then HB.out HB.out.size hb)
    have H_two0 := Aside0.mk (⟨by rw [hw, ← hz]; simp only [World.cell?]; rw [World.alloc_heap_new]; rfl, by rw [hs]; omega⟩ : w1.cell? ⟨w.heap.size, 0, none⟩ = some (.slice A0 rows.length c0) ∧ w.heap.size < w1.heap.size)
    have H_two1 := Aside0.mk (⟨by rw [hw, ← hz]; simp only [World.cell?]; rw [World.alloc_heap_new]; rfl, by rw [hs]; omega⟩ : w1.cell? ⟨w.heap.size, 1, none⟩ = some (.slice A1 owners.length c1) ∧ w.heap.size < w1.heap.size)
    clear hw hb hz
    have HZ := Aside0.mk hs; clear hs
    refine (HK.out _ H_rows.out H_own.out).mono ?_
    rintro e w2 ⟨rfl, hb⟩
    replace H_rows := Aside0.mk (H_rows.out.below hb)
    replace H_own := Aside0.mk (H_own.out.below hb)
    replace H_rnd := Aside0.mk (H_rnd.out.below hb)
    replace H_two0 := Aside0.mk (cell_on H_two0.out hb)
    replace H_two1 := Aside0.mk (cell_on H_two1.out hb)
    replace HB := Aside0.mk (below_then HB.out HB.out.size hb)
    clear hb
    go_wp2
    go_ret3
    rw [HF.out]
    exact ⟨_, _, rfl, Kd.R_nil _ _ _ _ _, Kd.R_nil _ _ _ _ _, HB.out⟩
end Go.Proofs.Ytdbamhckgaoibaa.P
namespace Go.Proofs.Ytdbamhckgaoibaa.P
open Go.RowKit Go.Proofs.YtdbamhckgaoibaaW.PrintWords Go.Proofs.YtdbamhckgaoibaaW.PrintLast Go.Proofs.YtdbamhckgaoibaaW.PrintMore
theorem deal_good {rows : List (List Int)} {owners : List Int} {secret : Int} {random : List Int} (hc : checkP rows owners = 0) (hs : inQ secret = true) (hr : random.any outQ = false) (hl : random.length + 1 = colsP rows) :
    dealQ rows owners secret random = (sharesQ rows (secret :: random), (secret :: random).map commitQ, 0) := by
  unfold dealQ
  rw [if_pos hc, hs, hr, decide_eq_true hl]; rfl
theorem noEl_commit (s : List Int) : (s.map commitQ).any noEl = false := by
  rw [List.any_eq_false]
  intro x hx
  obtain ⟨n, _, rfl⟩ := List.mem_map.1 hx
  unfold noEl
  rw [commitQ_el]; decide
theorem check_dealt {rows : List (List Int)} {owners : List Int} {s : List Int} (hc : checkP rows owners = 0) (hl : s.length = colsP rows) : checkD rows owners (s.map commitQ) = 0 := by
  unfold checkD
  rw [if_pos hc, if_pos ⟨by rw [List.length_map, hl], noEl_commit s⟩]
theorem pub_dealt : ∀ (s row : List Int) (y : Int), pubFrom (commitQ y) (s.map commitQ) row = commitQ (y + Sig.dot row s)
  | [], row, y => by
    rw [List.map_nil, Sig.dot_nil_r, Int.add_zero]
    cases row <;> rfl
  | x :: s, [], y => by rw [Sig.dot_nil_l, Int.add_zero]; rfl
  | x :: s, e :: row, y => by
    rw [List.map_cons, pubFrom, commitQ_pow, commitQ_add, pub_dealt s row, Sig.dot]
    congr 1
    rw [Int.mul_comm x e]; omega
theorem public_dealt {rows : List (List Int)} {owners : List Int} {s : List Int} (hc : checkP rows owners = 0) (hl : s.length = colsP rows) {i : Nat} (hi : i < rows.length) :
    publicD rows owners (s.map commitQ) (i : Int) = (commitQ (Sig.dot (rows.getD i []) s), 0) := by
  unfold publicD
  rw [if_pos (check_dealt hc hl), if_pos ⟨by omega, by omega⟩, Int.toNat_natCast, ← commitQ_zero, pub_dealt, Int.zero_add]
theorem fits_dealt {rows : List (List Int)} {owners : List Int} {s : List Int} (hc : checkP rows owners = 0) (hl : s.length = colsP rows) {i : Nat} (hi : i < rows.length) {v : Int} (hv : inQ v = true) :
    fitsD rows owners (s.map commitQ) (i : Int) v = (commitQ v == commitQ (Sig.dot (rows.getD i []) s), 0) := by
  have hr : rightS rows.length ⟨(i : Int), v⟩ = true := by
    unfold rightS
    simp only [hv, Bool.and_true]
    rw [decide_eq_true (by omega), decide_eq_true (by omega)]; rfl
  unfold fitsD
  rw [if_pos (check_dealt hc hl), hr, public_dealt hc hl hi]; rfl
end Go.Proofs.Ytdbamhckgaoibaa.P
namespace Go.Proofs.Ytdbamhckgaoibaa.P
open Go.RowKit Go.Proofs.YtdbamhckgaoibaaW.PrintWords Go.Proofs.YtdbamhckgaoibaaW.PrintLast Go.Proofs.YtdbamhckgaoibaaW.PrintMore
theorem finv_one : Sig.finv 1 = 1 := by unfold Sig.finv; rw [Int.one_pow]; rfl
def pivotG (g : Int → Int) (t : List (List Int)) (r k c : Nat) : List (List Int) :=
  let own := Sig.times (t.getD k []) (g (Sig.ent t k c))
  (((t.set k (t.getD r [])).map fun row => Sig.less row own (row.getD c 0))).set r own
def stepG (g : Int → Int) (st : List (List Int) × List Nat) (c : Nat) : List (List Int) × List Nat :=
  if Sig.find st.1 c st.2.length < st.1.length then (pivotG g st.1 st.2.length (Sig.find st.1 c st.2.length) c, st.2 ++ [c]) else st
def reduceG (g : Int → Int) (t : List (List Int)) (many : Nat) : List (List Int) × List Nat := (List.range many).foldl (stepG g) (t, [])
def combineG (g : Int → Int) (rows : List (List Int)) (target : List Int) : Option (List Int) :=
  if Sig.fits (reduceG g (Sig.turned rows target) rows.length).1 (reduceG g (Sig.turned rows target) rows.length).2.length rows.length then
    some (Sig.combY (reduceG g (Sig.turned rows target) rows.length).1 (reduceG g (Sig.turned rows target) rows.length).2 rows.length) else none
def inv1 (x : Int) : Int := if x = 1 then 1 else Sig.finv x
theorem inv1_eq : inv1 = Sig.finv := funext fun x => by
  unfold inv1
  split
  · rename_i h; subst h; exact finv_one.symm
  · rfl
theorem combine_inv1 (rows : List (List Int)) (target : List Int) : Sig.combine rows target = combineG inv1 rows target := by rw [inv1_eq]; rfl
end Go.Proofs.Ytdbamhckgaoibaa.P
namespace Go.Proofs.Ytdbamhckgaoibaa.P
open Go.RowKit Go.Proofs.YtdbamhckgaoibaaW.PrintWords Go.Proofs.YtdbamhckgaoibaaW.PrintLast Go.Proofs.YtdbamhckgaoibaaW.PrintMore
set_option linter.unusedVariables false
set_option linter.unusedSimpArgs false
def SaysC (g : Nat) (lb : Array Value) (p : Int → Bool) (w : World) : Prop := ∀ (x : Int) (W : World), Drawn0 w W → Calls Try.prog g (#[.int .i64 x] ++ lb) W fun e w' => e = .returned (.bool (p x)) ∧ Drawn0 W w'
set_option maxHeartbeats 1000000 in
theorem index_anyC {g : Nat} {lb : Array Value} {p : Int → Bool} (A0 : Option Addr) (c0 : Nat) (l : List Int) (w : World) (hs : SaysC g lb p w) (eg : ∀ args w, (callFunc g args).run Try.prog w = .ok (.enter g args) w) (hr : Kd.C (Kd.int .i64) w A0 l.length l) :
    Calls Try.prog 194 #[.slice A0 l.length c0, .func (.func g) #[] lb] w (Found p l w) := by
  have HS := Aside0.mk hs
  have HR := Aside0.mk hr
  have hlen : l.length ≤ 9223372036854775807 := hr.2.1
  clear hs hr
  go_enter Try.func194, Try.ntmps194
  go_wp2
  go_loopg [8] l.length (fun gk v8 w' => ∃ j : Nat, j + gk = l.length ∧ v8 = .int .i64 (j : Int) ∧ Aside0 ((l.take j).any p = false) ∧ Drawn0 w w')
  case atStart => exact ⟨0, by omega, rfl, ⟨by simp⟩, by repeat (first | exact Drawn0.refl _ | apply Drawn0.step)⟩
  case round =>
    obtain ⟨j, hj, rfl, HA, ⟨m, rfl⟩⟩ := hrel
    by_cases hlt : j < l.length
    · have c1 : decide ((j : Int) < (l.length : Int)) = true := decide_eq_true (by omega)
      have c2 : decide (j < l.length) = true := decide_eq_true hlt
      obtain ⟨ad, e, hx⟩ := Kd.at_int HR.out (j : Int) (by omega) (by omega)
      cases e
      rw [Int.toNat_natCast] at hx
      have hrd : rd l (j : Int) = l[j] := by
        unfold rd
        rw [Int.toNat_natCast, List.getD_eq_getElem?_getD, List.getElem?_eq_getElem hlt]; rfl
      rw [hrd] at hx
      have c3 : (0 : Int) ≤ (j : Int) := by omega
      generalize hy : l[j] = y at hx
      have HY := Aside0.mk hy
      clear hy hrd
      go_wp2_with fail
      refine (HS.out _ _ (by repeat (first | exact Drawn0.refl _ | exact ⟨_, rfl⟩ | apply Drawn0.step))).mono ?_
      rintro e w' ⟨rfl, ⟨nd, rfl⟩⟩
      cases hpy : p y with
      | true =>
        have hf : l.any p = true := any_take_stop hlt (by rw [HY.out]; exact hpy)
        have HF := Aside0.mk hf
        clear hf hpy
        go_wp2
        go_ret
        exact ⟨(j : Int), by first | rfl | simp, by rw [HF.out]; exact decide_eq_true (by omega), by repeat (first | exact Drawn0.refl _ | apply Drawn0.step)⟩
      | false =>
        have HF := Aside0.mk (any_take_next hlt HA.out (by rw [HY.out]; exact hpy))
        clear hpy
        go_wp2
        go_roundg (gk - 1)
        case measure => omega
        case rel => exact ⟨j + 1, by omega, by go_num, HF, by repeat (first | exact Drawn0.refl _ | apply Drawn0.step)⟩
    · have hje : j = l.length := by omega
      have c1 : decide ((j : Int) < (l.length : Int)) = false := decide_eq_false (by omega)
      have c2 : decide (j < l.length) = false := decide_eq_false (by omega)
      have hf : l.any p = false := by have := HA.out; rw [hje, List.take_length] at this; exact this
      have HF := Aside0.mk hf
      clear hf hje
      go_wp2
      go_ret
      exact ⟨-1, by first | rfl | simp, by rw [HF.out]; rfl, by repeat (first | exact Drawn0.refl _ | apply Drawn0.step)⟩
theorem contains_anyC {g : Nat} {lb : Array Value} {p : Int → Bool} (A0 : Option Addr) (c0 : Nat) (l : List Int) (w : World) (hs : SaysC g lb p w) (eg : ∀ args w, (callFunc g args).run Try.prog w = .ok (.enter g args) w) (hr : Kd.C (Kd.int .i64) w A0 l.length l) :
    Calls Try.prog 161 #[.slice A0 l.length c0, .func (.func g) #[] lb] w fun e w' => e = .returned (.bool (l.any p)) ∧ Drawn0 w w' := by
  have HG := index_anyC A0 c0 l w hs eg hr
  clear hs hr eg
  unfold Found at HG
  generalize l.any p = b at HG ⊢
  have HG := Aside0.mk HG
  go_enter Try.func161, Try.ntmps161
  go_wp2_with fail
  refine HG.out.mono ?_
  rintro e w' ⟨i, rfl, hi, ⟨nd, rfl⟩⟩
  go_wp2
  go_ret
  exact ⟨by first | rfl | simp, by repeat (first | exact Drawn0.refl _ | apply Drawn0.step)⟩
theorem inOrder_w (x : Int) (w : World) : Calls Try.prog 111 #[.int .i64 x] w fun e w' => e = .returned (.bool (inQ x)) ∧ Drawn0 w w' := by
  by_cases h1 : 0 ≤ x
  · by_cases h2 : x < 1073741789
    · have HQ : Aside0 (inQ x = true) := ⟨by unfold inQ; rw [decide_eq_true h1, decide_eq_true h2]; rfl⟩
      go_enter Try.func111, Try.ntmps111
      go_wp2
      go_ret
      exact ⟨ret_b HQ.out, by repeat (first | exact Drawn0.refl _ | apply Drawn0.step)⟩
    · have HQ : Aside0 (inQ x = false) := ⟨by unfold inQ; rw [decide_eq_false h2, Bool.and_false]⟩
      have n1 : decide (x < 1073741789) = false := decide_eq_false h2
      go_enter Try.func111, Try.ntmps111
      go_wp2
      go_ret
      exact ⟨ret_b HQ.out, by repeat (first | exact Drawn0.refl _ | apply Drawn0.step)⟩
  · have HQ : Aside0 (inQ x = false) := ⟨by unfold inQ; rw [decide_eq_false h1, Bool.false_and]⟩
    have n1 : decide (0 ≤ x) = false := decide_eq_false h1
    go_enter Try.func111, Try.ntmps111
    go_wp2
    go_ret
    exact ⟨ret_b HQ.out, by repeat (first | exact Drawn0.refl _ | apply Drawn0.step)⟩
theorem notIn_w (b : Nat) (x : Int) (w : World) (hx : w.cell? ⟨b, 0, none⟩ = some (.func (.func 111) #[] #[])) : Calls Try.prog 180 #[.int .i64 x, .pointer (some ⟨b, 0, none⟩)] w fun e w' => e = .returned (.bool (!inQ x)) ∧ Drawn0 w w' := by
  have HI := Aside0.mk (inOrder_w x)
  generalize inQ x = q at HI ⊢
  go_enter Try.func180, Try.ntmps180
  go_wp2_with fail
  refine (HI.out _).mono ?_
  rintro e w' ⟨rfl, ⟨nd, rfl⟩⟩
  go_wp2
  go_ret
  exact ⟨by first | rfl | simp, by repeat (first | exact Drawn0.refl _ | apply Drawn0.step)⟩
def allQ (l : List Int) : Bool := decide (l.length ≤ 64) && !l.any fun x => !inQ x
set_option maxHeartbeats 1000000 in
theorem all_w {A : Option Addr} {c : Nat} {l : List Int} {w : World} (h : Sl (Kd.int .i64) w A c l) : Calls Try.prog 112 #[.slice A l.length c, .func (.func 111) #[] #[]] w fun e w' => e = .returned (.bool (allQ l)) ∧ Below w.heap.size w w' := by
  have hmf : ∀ (fn : Fn) (first cap : Array Value) (w : World), (Instr.makeFunc fn first cap).run Try.prog w = .ok (.func fn first cap) w := fun _ _ _ _ => rfl
  obtain ⟨W1, hW1⟩ : ∃ W1, W1 = w.alloc (.cells #[.func (.func 111) #[] #[]] 77) := ⟨_, rfl⟩
  have hb : Below w.heap.size w W1 := by rw [hW1]; exact below_alloc1 _ _
  have hx : W1.cell? ⟨w.heap.size, 0, none⟩ = some (.func (.func 111) #[] #[]) := by rw [hW1]; exact (Bx.new _ _ _).1
  have hsz : w.heap.size < W1.heap.size := by rw [hW1]; simp
  have HC := Aside0.mk (contains_anyC (g := 180) (lb := #[.pointer (some ⟨w.heap.size, 0, none⟩)]) (p := fun x => !inQ x) A c l W1 (fun x W hd => notIn_w w.heap.size x W ((hd.below.cell (p := ⟨w.heap.size, 0, none⟩) hsz).trans hx)) (fun args w => enters_ Try.func180 (by kernel_rfl) rfl args w) (h.below hb).rd)
  have HQ : Aside0 (allQ l = (decide (l.length ≤ 64) && !l.any fun x => !inQ x)) := ⟨rfl⟩
  generalize (l.any fun x => !inQ x) = q at HC HQ
  have HB := Aside0.mk hb
  have HW := Aside0.mk hW1
  clear hx hb hsz hW1 h
  by_cases hl : l.length ≤ 64
  · have d1 : decide ((l.length : Int) ≤ 64) = true := decide_eq_true (by omega)
    have d2 : decide (l.length ≤ 64) = true := decide_eq_true hl
    rw [d2] at HQ
    go_enter Try.func112, Try.ntmps112
    go_wp2_with fail
    rw [← HW.out]
    refine HC.out.mono ?_
    rintro e w' ⟨rfl, hd⟩
    have HB2 := Aside0.mk (below_then HB.out HB.out.size hd.below)
    clear hd
    go_wp2
    go_ret
    exact ⟨ret_b (by rw [HQ.out, Bool.true_and]), HB2.out⟩
  · have d1 : decide ((l.length : Int) ≤ 64) = false := decide_eq_false (by omega)
    have d2 : decide (l.length ≤ 64) = false := decide_eq_false hl
    rw [d2] at HQ
    go_enter Try.func112, Try.ntmps112
    go_wp2
    go_ret
    exact ⟨ret_b (by rw [HQ.out, Bool.false_and]), below_alloc1 _ _⟩
def sumL (l : List Int) : Int := l.foldl (fun n x => Int.tmod (wrap64 (n + x)) 1073741789) 0
set_option maxHeartbeats 1000000 in
theorem sum_w {A : Option Addr} {c : Nat} {l : List Int} {w : World} (h : Sl (Kd.int .i64) w A c l) : Calls Try.prog 113 #[.slice A l.length c] w fun e w' => e = .returned (.int .i64 (sumL l)) ∧ Below w.heap.size w w' := by
  have HR := Aside0.mk h
  clear h
  go_enter Try.func113, Try.ntmps113
  go_wp2
  go_loopg [2, 7] l.length (fun gk v2 v7 wr => ∃ j : Nat, j ≤ l.length ∧ gk = l.length - j ∧ v7 = .int .i64 (j : Int) ∧ v2 = .int .i64 (sumL (l.take j)) ∧ Aside0 (Below w.heap.size w wr))
  case atStart => exact ⟨0, Nat.zero_le _, rfl, rfl, rfl, ⟨by first | exact Below.refl _ _ | exact pw_below_drewN (Below.refl _ _) _⟩⟩
  case round =>
    obtain ⟨j, hj, rfl, rfl, rfl, HB⟩ := hrel
    by_cases hlt : j < l.length
    · have d1 : decide ((j : Int) < (l.length : Int)) = true := decide_eq_true (by omega)
      have d2 : decide (j < l.length) = true := decide_eq_true hlt
      have d3 : (0 : Int) ≤ (j : Int) := by omega
      obtain ⟨ad, e, hx⟩ := Kd.at_int HR.out.rd (j : Int) (by omega) (by omega)
      cases e
      rw [rd_nat, Int.toNat_natCast] at hx
      replace hx := (HB.out.cell (World.block_lt_of_cell? w _ hx)).trans hx
      have hs : sumL (l.take (j + 1)) = Int.tmod (wrap64 (sumL (l.take j) + l.getD j 0)) 1073741789 := by
        unfold sumL
        rw [List.take_succ_eq_append_getElem hlt, List.foldl_append, List.getD_eq_getElem?_getD, List.getElem?_eq_getElem hlt]; rfl
      have HS := Aside0.mk hs
      have HL := Aside0.mk HR.out.rd.2.1
      generalize sumL (l.take j) = s at HS ⊢
      generalize l.getD j 0 = x at hx HS
      clear hs
      go_wp2
      go_roundg (l.length - (j + 1))
      case measure => omega
      case rel => exact ⟨j + 1, by omega, rfl, by first | rfl | rw [wrap_nextB (by have := HL.out; omega)], by rw [HS.out], ⟨by first | exact HB.out | exact pw_below_drewN HB.out _⟩⟩
    · obtain rfl : j = l.length := by omega
      have d1 : decide ((l.length : Int) < (l.length : Int)) = false := decide_eq_false (by omega)
      rw [List.take_length]
      go_wp2
      go_ret
      exact ⟨rfl, HB.out⟩
end Go.Proofs.Ytdbamhckgaoibaa.P
namespace Go.Proofs.Ytdbamhckgaoibaa.P
open Go.RowKit Go.Proofs.YtdbamhckgaoibaaW.PrintWords Go.Proofs.YtdbamhckgaoibaaW.PrintLast Go.Proofs.YtdbamhckgaoibaaW.PrintMore
set_option linter.unusedVariables false
def partQ (y f0 f1 : Int) (masks : List Int) : Int × Int :=
  if inQ y = true then (if allQ masks = true then (if 0 ≤ f0 then (if f0 < 64 then (if inQ f1 = true then (sumL [Int.tmod (wrap64 (y * f1)) 1073741789, sumL masks], 0) else (0, 340)) else (0, 340)) else (0, 340)) else (0, 1)) else (0, 1)
theorem sum2_c (W : World) (a b : Int) : Calls Try.prog 113 #[.slice (some ⟨W.heap.size, 0, none⟩) 2 2] (W.alloc (.cells #[.int .i64 a, .int .i64 b] 3)) fun e w' => e = .returned (.int .i64 (sumL [a, b])) ∧ Below W.heap.size W w' :=
  (sum_w (Sl.ints W 3 [a, b] (by show 2 ≤ 1000000; decide))).mono fun e w' h => ⟨h.1, below_then (below_alloc1 _ _) (below_alloc1 _ _).size h.2⟩
set_option maxRecDepth 100000 in
set_option maxHeartbeats 4000000 in
theorem part_w {y f0 f1 : Int} {A2 : Option Addr} {c2 : Nat} {masks : List Int} {w : World} (h2 : Sl (Kd.int .i64) w A2 c2 masks) :
    Calls Try.prog 42 #[.int .i64 y, .agg #[.int .i64 f0, .int .i64 f1], .slice A2 masks.length c2] w fun e w' => e = .returned (.tuple #[.int .i64 (partQ y f0 f1 masks).1, .int .i64 (partQ y f0 f1 masks).2]) ∧ Below w.heap.size w w' := by
  have H_m := Aside0.mk h2
  have HB := Aside0.mk (Below.refl w.heap.size w)
  have HP : Aside0 (partQ y f0 f1 masks = if inQ y = true then (if allQ masks = true then (if 0 ≤ f0 then (if f0 < 64 then (if inQ f1 = true then (sumL [Int.tmod (wrap64 (y * f1)) 1073741789, sumL masks], 0) else (0, 340)) else (0, 340)) else (0, 340)) else (0, 1)) else (0, 1)) := ⟨rfl⟩
  have HI := Aside0.mk (inOrder_w y)
  generalize inQ y = q at HI HP
  have HS := Aside0.mk (fun (W : World) (g : Sl (Kd.int .i64) W A2 c2 masks) => sum_w g)
  have HA := Aside0.mk (fun (W : World) (g : Sl (Kd.int .i64) W A2 c2 masks) => all_w g)
  have HI1 := Aside0.mk (inOrder_w f1)
  generalize sumL masks = sm at HS HP
  generalize allQ masks = qa at HA HP
  generalize inQ f1 = q1 at HI1 HP
  clear h2
  go_enter Try.func42, Try.ntmps42
  go_wp2_with fail
  obtain ⟨w1, hw⟩ : ∃ W_, W_ = w.alloc (.cells #[.int .i64 f0, .int .i64 f1] 38) := ⟨_, rfl⟩
  rw [← hw]
  have hb : Below w.heap.size w w1 := by rw [hw]; exact below_alloc1 _ _
  have hz : w.heap.size = w.heap.size := rfl
  have hs : w1.heap.size = w.heap.size + 1 := by rw [hw, ← hz]; simp
  replace H_m := Aside0.mk (H_m.out.below hb)
  replace HB := Aside0.mk (below_then HB.out HB.out.size hb)
  have H_sh0 := Aside0.mk (⟨by rw [hw, ← hz]; simp only [World.cell?]; rw [World.alloc_heap_new]; rfl, by rw [hs]; omega⟩ : w1.cell? ⟨w.heap.size, 0, none⟩ = some (.int .i64 f0) ∧ w.heap.size < w1.heap.size)
  have H_sh1 := Aside0.mk (⟨by rw [hw, ← hz]; simp only [World.cell?]; rw [World.alloc_heap_new]; rfl, by rw [hs]; omega⟩ : w1.cell? ⟨w.heap.size, 1, none⟩ = some (.int .i64 f1) ∧ w.heap.size < w1.heap.size)
  clear hw hb hz
  have HZ := Aside0.mk hs; clear hs
  refine (HI.out _).mono ?_
  rintro e w2 ⟨rfl, hd⟩
  have hb := hd.below
  clear hd
  replace H_m := Aside0.mk (H_m.out.below hb)
  replace H_sh0 := Aside0.mk (cell_on H_sh0.out hb)
  replace H_sh1 := Aside0.mk (cell_on H_sh1.out hb)
  replace HB := Aside0.mk (below_then HB.out HB.out.size hb)
  clear hb
  cases q with
  | false =>
    go_wp2
    go_ret2
    exact ⟨ret_ii (by rw [HP.out]; simp []), HB.out⟩
  | true =>
    go_wp2_with fail
    refine (HA.out _ H_m.out).mono ?_
    rintro e w3 ⟨rfl, hb⟩
    replace H_m := Aside0.mk (H_m.out.below hb)
    replace H_sh0 := Aside0.mk (cell_on H_sh0.out hb)
    replace H_sh1 := Aside0.mk (cell_on H_sh1.out hb)
    replace HB := Aside0.mk (below_then HB.out HB.out.size hb)
    clear hb
    cases qa with
    | false =>
      go_wp2
      go_ret2
      exact ⟨ret_ii (by rw [HP.out]; simp []), HB.out⟩
    | true =>
      by_cases g0 : 0 ≤ f0
      · skip
        by_cases g1 : f0 < 64
        · skip
          have n0 : decide (f0 < 0) = false := decide_eq_false (by omega)
          have n1 : decide (64 ≤ f0) = false := decide_eq_false (by omega)
          have HG := Aside0.mk (And.intro g0 g1)
          clear g0 g1
          have x_sh0 := H_sh0.out.1
          have x_sh1 := H_sh1.out.1
          go_wp2_with fail
          clear x_sh0 x_sh1
          refine (HI1.out _).mono ?_
          rintro e w4 ⟨rfl, hd⟩
          have hb := hd.below
          clear hd
          replace H_m := Aside0.mk (H_m.out.below hb)
          replace H_sh0 := Aside0.mk (cell_on H_sh0.out hb)
          replace H_sh1 := Aside0.mk (cell_on H_sh1.out hb)
          replace HB := Aside0.mk (below_then HB.out HB.out.size hb)
          clear hb
          cases q1 with
          | false =>
            go_wp2
            go_ret2
            exact ⟨ret_ii (by rw [HP.out]; simp [HG.out.1, HG.out.2]), HB.out⟩
          | true =>
            have x_sh1 := H_sh1.out.1
            go_upto_region 5 with fail
            go_region_with (first
              | (go_at_call_of 113 (Value.slice A2 masks.length c2); refine (HS.out _ ?_).mono ?_; exact H_m.out.below ((Below.refl _ _).drew); rintro e w5 ⟨rfl, hb⟩; have x5 := (cell_on H_sh1.out (Below.trans ((Below.refl _ _).drew) hb)).1; have HB5 := Aside0.mk (below_then HB.out HB.out.size (Below.trans ((Below.refl _ _).drew) hb)); clear hb)
              | (refine (sum2_c w5 _ _).mono ?_; rintro e w6 ⟨rfl, hb⟩; have HB6 := Aside0.mk (below_then HB5.out HB5.out.size hb); clear hb))
            all_goals go_wp2
            all_goals go_ret2
            all_goals exact ⟨ret_ii (by rw [HP.out, i64_w]; simp only [if_true, if_pos HG.out.1, if_pos HG.out.2]), HB6.out⟩
        · skip
          have n0 : decide (f0 < 0) = false := decide_eq_false (by omega)
          have n1 : decide (64 ≤ f0) = true := decide_eq_true (by omega)
          have HG := Aside0.mk (And.intro g0 g1)
          clear g0 g1
          have x_sh0 := H_sh0.out.1
          have x_sh1 := H_sh1.out.1
          go_wp2
          go_ret2
          exact ⟨ret_ii (by rw [HP.out]; simp [HG.out.1, Int.not_lt.mpr HG.out.2]), HB.out⟩
      · skip
        have n0 : decide (f0 < 0) = true := decide_eq_true (by omega)
        have HG := Aside0.mk g0
        clear g0
        have x_sh0 := H_sh0.out.1
        go_wp2
        go_ret2
        exact ⟨ret_ii (by rw [HP.out]; simp [Int.not_le.mpr HG.out]), HB.out⟩
end Go.Proofs.Ytdbamhckgaoibaa.P
namespace Go.Proofs.Ytdbamhckgaoibaa.P
open Go.RowKit Go.Proofs.YtdbamhckgaoibaaW.PrintWords Go.Proofs.YtdbamhckgaoibaaW.PrintLast Go.Proofs.YtdbamhckgaoibaaW.PrintMore
set_option linter.unusedVariables false
def finishQ (rows : List (List Int)) (owners cm : List Int) (row : Int) (parts : List Int) : Int × Int × Bool × Int :=
  if (publicD rows owners cm row).2 = 0 then (if allQ parts = true then (if (fitsD rows owners cm row (sumL parts)).2 = 0 ∧ (fitsD rows owners cm row (sumL parts)).1 = true then (row, sumL parts, true, 0) else (0, 0, false, (fitsD rows owners cm row (sumL parts)).2)) else (0, 0, false, 1)) else (0, 0, false, (publicD rows owners cm row).2)
theorem results_fin (tmps : Array Value) (W : World) (b : Nat) (a c v7 v8 : Value) (h6 : tmps[6]?.getD undef = .pointer (some ⟨b, 0, none⟩)) (h7 : tmps[7]?.getD undef = v7) (h8 : tmps[8]?.getD undef = v8) (ha : W.cell? ⟨b, 0, none⟩ = some a) (hc : W.cell? ⟨b, 1, none⟩ = some c) :
    (results Try.f45 tmps).run Try.prog W = .ok (.tuple #[.agg #[a, c], v7, v8]) W := by
  simp [results, Try.results45, go_sem, h6, h7, h8, ha, hc]
theorem two_set {W : World} {b : Nat} {x0 x1 : Value} (h0 : W.cell? ⟨b, 0, none⟩ = some x0) (h1 : W.cell? ⟨b, 1, none⟩ = some x1) (a c : Value) :
    ((W.setCell ⟨b, 0, none⟩ a).setCell ⟨b, 1, none⟩ c).cell? ⟨b, 0, none⟩ = some a ∧ ((W.setCell ⟨b, 0, none⟩ a).setCell ⟨b, 1, none⟩ c).cell? ⟨b, 1, none⟩ = some c ∧ (∀ j, ((W.setCell ⟨b, 0, none⟩ a).setCell ⟨b, 1, none⟩ c).frozen? ⟨b, j, none⟩ = W.frozen? ⟨b, j, none⟩) ∧ ∀ b' j, b ≠ b' → ((W.setCell ⟨b, 0, none⟩ a).setCell ⟨b, 1, none⟩ c).cell? ⟨b', j, none⟩ = W.cell? ⟨b', j, none⟩ := by
  have e1 : (W.setCell ⟨b, 0, none⟩ a).cell? ⟨b, 0, none⟩ = some a := World.cell?_setCell_same' _ _ _ (by rw [h0]; rfl)
  have e2 : (W.setCell ⟨b, 0, none⟩ a).cell? ⟨b, 1, none⟩ = some x1 := (World.cell?_setCell_other _ _ _ _ (by simp)).trans h1
  refine ⟨(World.cell?_setCell_other _ _ _ _ (by simp)).trans e1, World.cell?_setCell_same' _ _ _ (by rw [e2]; rfl), fun j => by rw [World.frozen?_setCell, World.frozen?_setCell], fun b' j hne => ?_⟩
  rw [World.cell?_setCell_far _ ⟨b, 1, none⟩ ⟨b', j, none⟩ _ hne, World.cell?_setCell_far _ ⟨b, 0, none⟩ ⟨b', j, none⟩ _ hne]
theorem ret_fin {a b d : Int} {q : Bool} {p : Int × Int × Bool × Int} (h : p = (a, b, q, d)) : Ending.returned (.tuple #[.agg #[.int .i64 a, .int .i64 b], .bool q, .int .i64 d]) = .returned (.tuple #[.agg #[.int .i64 p.1, .int .i64 p.2.1], .bool p.2.2.1, .int .i64 p.2.2.2]) := by rw [h]
theorem frz_on {w w' : World} {b j : Nat} (h : w.frozen? ⟨b, j, none⟩ = false ∧ b < w.heap.size) (hb : Below w.heap.size w w') : w'.frozen? ⟨b, j, none⟩ = false ∧ b < w'.heap.size :=
  ⟨(hb.frozen (p := ⟨b, j, none⟩) h.2).trans h.1, Nat.lt_of_lt_of_le h.2 hb.size⟩
set_option maxRecDepth 100000 in
set_option maxHeartbeats 4000000 in
theorem finish_w {A0 A1 A2 : Option Addr} {c0 c1 c2 : Nat} {rows : List (List Int)} {owners : List Int} {cm : List Int} {ep row : Int} {A3 : Option Addr} {c3 : Nat} {parts : List Int} {w : World} (h0 : Sl (Kd.slice 3 (Kd.int .i64)) w A0 c0 rows) (h1 : Sl (Kd.int .i64) w A1 c1 owners) (h2 : Sl (Kd.int .i64) w A2 c2 cm) (h3 : Sl (Kd.int .i64) w A3 c3 parts) :
    Calls Try.prog 45 #[.agg #[.int .i64 ep, .slice A0 rows.length c0, .slice A1 owners.length c1, .slice A2 cm.length c2], .int .i64 row, .slice A3 parts.length c3] w fun e w' => e = .returned (.tuple #[.agg #[.int .i64 (finishQ rows owners cm row parts).1, .int .i64 (finishQ rows owners cm row parts).2.1], .bool (finishQ rows owners cm row parts).2.2.1, .int .i64 (finishQ rows owners cm row parts).2.2.2]) ∧ Below w.heap.size w w' := by
  have H_rows := Aside0.mk h0
  have H_own := Aside0.mk h1
  have H_cm := Aside0.mk h2
  have H_m := Aside0.mk h3
  have HB := Aside0.mk (Below.refl w.heap.size w)
  clear h0 h1 h2 h3
  obtain ⟨t0, t, ht⟩ : ∃ t0 t, publicD rows owners cm row = (t0, t) := ⟨_, _, rfl⟩
  have HP : Aside0 (∀ W, Sl (Kd.slice 3 (Kd.int .i64)) W A0 c0 rows → Sl (Kd.int .i64) W A1 c1 owners → Sl (Kd.int .i64) W A2 c2 cm → Calls Try.prog 28 #[.agg #[.slice A0 rows.length c0, .slice A1 owners.length c1], .slice A2 cm.length c2, .int .i64 row] W fun e w' => e = .returned (.tuple #[.int .i64 t0, .int .i64 t]) ∧ Below W.heap.size W w') := ⟨fun W g0 g1 g2 => by have := public_w (row := row) g0 g1 g2; rwa [ht] at this⟩
  have HS := Aside0.mk (fun (W : World) (g : Sl (Kd.int .i64) W A3 c3 parts) => sum_w g)
  have HA := Aside0.mk (fun (W : World) (g : Sl (Kd.int .i64) W A3 c3 parts) => all_w g)
  obtain ⟨b, u, hu⟩ : ∃ b u, fitsD rows owners cm row (sumL parts) = (b, u) := ⟨_, _, rfl⟩
  have HFT : Aside0 (∀ W, Sl (Kd.slice 3 (Kd.int .i64)) W A0 c0 rows → Sl (Kd.int .i64) W A1 c1 owners → Sl (Kd.int .i64) W A2 c2 cm → Calls Try.prog 30 #[.agg #[.slice A0 rows.length c0, .slice A1 owners.length c1], .slice A2 cm.length c2, .agg #[.int .i64 row, .int .i64 (sumL parts)]] W fun e w' => e = .returned (.tuple #[.bool b, .int .i64 u]) ∧ Below W.heap.size W w') := ⟨fun W g0 g1 g2 => by have := fits_w (row := row) (v := sumL parts) g0 g1 g2; rwa [hu] at this⟩
  have HF : Aside0 (finishQ rows owners cm row parts = if t = 0 then (if allQ parts = true then (if u = 0 ∧ b = true then (row, sumL parts, true, 0) else (0, 0, false, u)) else (0, 0, false, 1)) else (0, 0, false, t)) := ⟨by unfold finishQ; rw [ht, hu]⟩
  generalize sumL parts = sm at HS HFT HF
  generalize allQ parts = qa at HA HF
  clear ht hu
  have HG := Aside0.mk (And.intro H_rows.out (And.intro H_own.out H_cm.out))
  go_enter Try.func45, Try.ntmps45
  go_wp2_with fail
  obtain ⟨w1, hw⟩ : ∃ W_, W_ = w.alloc (.cells #[.int .i64 ep, .slice A0 rows.length c0, .slice A1 owners.length c1, .slice A2 cm.length c2] 57) := ⟨_, rfl⟩
  rw [← hw]
  have hb : Below w.heap.size w w1 := by rw [hw]; exact below_alloc1 _ _
  have hz : w.heap.size = w.heap.size := rfl
  have hs : w1.heap.size = w.heap.size + 1 := by rw [hw, ← hz]; simp
  replace H_rows := Aside0.mk (H_rows.out.below hb)
  replace H_own := Aside0.mk (H_own.out.below hb)
  replace H_cm := Aside0.mk (H_cm.out.below hb)
  replace H_m := Aside0.mk (H_m.out.below hb)
  replace HB := Aside0.mk (below_then HB.out HB.out.size hb)
  have H_ky0 := Aside0.mk (⟨by rw [hw, ← hz]; simp only [World.cell?]; rw [World.alloc_heap_new]; rfl, by rw [hs]; omega⟩ : w1.cell? ⟨w.heap.size, 0, none⟩ = some (.int .i64 ep) ∧ w.heap.size < w1.heap.size)
  have H_ky1 := Aside0.mk (⟨by rw [hw, ← hz]; simp only [World.cell?]; rw [World.alloc_heap_new]; rfl, by rw [hs]; omega⟩ : w1.cell? ⟨w.heap.size, 1, none⟩ = some (.slice A0 rows.length c0) ∧ w.heap.size < w1.heap.size)
  have H_ky2 := Aside0.mk (⟨by rw [hw, ← hz]; simp only [World.cell?]; rw [World.alloc_heap_new]; rfl, by rw [hs]; omega⟩ : w1.cell? ⟨w.heap.size, 2, none⟩ = some (.slice A1 owners.length c1) ∧ w.heap.size < w1.heap.size)
  have H_ky3 := Aside0.mk (⟨by rw [hw, ← hz]; simp only [World.cell?]; rw [World.alloc_heap_new]; rfl, by rw [hs]; omega⟩ : w1.cell? ⟨w.heap.size, 3, none⟩ = some (.slice A2 cm.length c2) ∧ w.heap.size < w1.heap.size)
  clear hw hb hz
  have HZ := Aside0.mk hs; clear hs
  obtain ⟨w2, hw⟩ : ∃ W_, W_ = w1.alloc (.cells #[.int .i64 0, .int .i64 0] 38) := ⟨_, rfl⟩
  rw [← hw]
  have hb : Below w1.heap.size w1 w2 := by rw [hw]; exact below_alloc1 _ _
  have hz : w1.heap.size = w.heap.size + 1 := HZ.out
  have hs : w2.heap.size = w.heap.size + 1 + 1 := by rw [hw, ← hz]; simp
  replace H_rows := Aside0.mk (H_rows.out.below hb)
  replace H_own := Aside0.mk (H_own.out.below hb)
  replace H_cm := Aside0.mk (H_cm.out.below hb)
  replace H_m := Aside0.mk (H_m.out.below hb)
  replace H_ky0 := Aside0.mk (cell_on H_ky0.out hb)
  replace H_ky1 := Aside0.mk (cell_on H_ky1.out hb)
  replace H_ky2 := Aside0.mk (cell_on H_ky2.out hb)
  replace H_ky3 := Aside0.mk (cell_on H_ky3.out hb)
  replace HB := Aside0.mk (below_then HB.out HB.out.size hb)
  have H_rs0 := Aside0.mk (⟨by rw [hw, ← hz]; simp only [World.cell?]; rw [World.alloc_heap_new]; rfl, by rw [hs]; omega⟩ : w2.cell? ⟨w.heap.size + 1, 0, none⟩ = some (.int .i64 0) ∧ w.heap.size + 1 < w2.heap.size)
  have H_zrs0 := Aside0.mk (⟨by rw [hw, ← hz]; exact World.frozen?_alloc_at _ _ _ _ rfl, by rw [hs]; omega⟩ : w2.frozen? ⟨w.heap.size + 1, 0, none⟩ = false ∧ w.heap.size + 1 < w2.heap.size)
  have H_rs1 := Aside0.mk (⟨by rw [hw, ← hz]; simp only [World.cell?]; rw [World.alloc_heap_new]; rfl, by rw [hs]; omega⟩ : w2.cell? ⟨w.heap.size + 1, 1, none⟩ = some (.int .i64 0) ∧ w.heap.size + 1 < w2.heap.size)
  have H_zrs1 := Aside0.mk (⟨by rw [hw, ← hz]; exact World.frozen?_alloc_at _ _ _ _ rfl, by rw [hs]; omega⟩ : w2.frozen? ⟨w.heap.size + 1, 1, none⟩ = false ∧ w.heap.size + 1 < w2.heap.size)
  clear hw hb hz
  have HZ := Aside0.mk hs; clear hs
  refine (HP.out _ H_rows.out H_own.out H_cm.out).mono ?_
  rintro e w3 ⟨rfl, hb⟩
  replace H_rows := Aside0.mk (H_rows.out.below hb)
  replace H_own := Aside0.mk (H_own.out.below hb)
  replace H_cm := Aside0.mk (H_cm.out.below hb)
  replace H_m := Aside0.mk (H_m.out.below hb)
  replace H_ky0 := Aside0.mk (cell_on H_ky0.out hb)
  replace H_ky1 := Aside0.mk (cell_on H_ky1.out hb)
  replace H_ky2 := Aside0.mk (cell_on H_ky2.out hb)
  replace H_ky3 := Aside0.mk (cell_on H_ky3.out hb)
  replace H_rs0 := Aside0.mk (cell_on H_rs0.out hb)
  replace H_zrs0 := Aside0.mk (frz_on H_zrs0.out hb)
  replace H_rs1 := Aside0.mk (cell_on H_rs1.out hb)
  replace H_zrs1 := Aside0.mk (frz_on H_zrs1.out hb)
  replace HB := Aside0.mk (below_then HB.out HB.out.size hb)
  clear hb
  rcases Decidable.em (t = 0) with h | h
  · skip
    subst h
    go_wp2_with fail
    refine (HA.out _ H_m.out).mono ?_
    rintro e w4 ⟨rfl, hb⟩
    replace H_rows := Aside0.mk (H_rows.out.below hb)
    replace H_own := Aside0.mk (H_own.out.below hb)
    replace H_cm := Aside0.mk (H_cm.out.below hb)
    replace H_m := Aside0.mk (H_m.out.below hb)
    replace H_ky0 := Aside0.mk (cell_on H_ky0.out hb)
    replace H_ky1 := Aside0.mk (cell_on H_ky1.out hb)
    replace H_ky2 := Aside0.mk (cell_on H_ky2.out hb)
    replace H_ky3 := Aside0.mk (cell_on H_ky3.out hb)
    replace H_rs0 := Aside0.mk (cell_on H_rs0.out hb)
    replace H_zrs0 := Aside0.mk (frz_on H_zrs0.out hb)
    replace H_rs1 := Aside0.mk (cell_on H_rs1.out hb)
    replace H_zrs1 := Aside0.mk (frz_on H_zrs1.out hb)
    replace HB := Aside0.mk (below_then HB.out HB.out.size hb)
    clear hb
    cases qa with
    | false =>
      have hhb := H_rs0.out.2
      have x_rs0 := H_rs0.out.1
      have x_rs1 := H_rs1.out.1
      have x_zrs0 := H_zrs0.out.1
      have x_zrs1 := H_zrs1.out.1
      go_wp2
      have hts := two_set H_rs0.out.1 H_rs1.out.1 (.int .i64 0) (.int .i64 0)
      refine bodyPost_ret (results_fin _ _ (w.heap.size + 1) (.int .i64 0) (.int .i64 0) _ _ rfl rfl rfl hts.1 hts.2.1) rfl ?_
      exact ⟨ret_fin (by rw [HF.out]; simp), (HB.out.setCell (Nat.le_add_right _ _) _).setCell (Nat.le_add_right _ _) _⟩
    | true =>
      go_wp2_with fail
      refine (HS.out _ H_m.out).mono ?_
      rintro e w5 ⟨rfl, hb⟩
      replace H_rows := Aside0.mk (H_rows.out.below hb)
      replace H_own := Aside0.mk (H_own.out.below hb)
      replace H_cm := Aside0.mk (H_cm.out.below hb)
      replace H_m := Aside0.mk (H_m.out.below hb)
      replace H_ky0 := Aside0.mk (cell_on H_ky0.out hb)
      replace H_ky1 := Aside0.mk (cell_on H_ky1.out hb)
      replace H_ky2 := Aside0.mk (cell_on H_ky2.out hb)
      replace H_ky3 := Aside0.mk (cell_on H_ky3.out hb)
      replace H_rs0 := Aside0.mk (cell_on H_rs0.out hb)
      replace H_zrs0 := Aside0.mk (frz_on H_zrs0.out hb)
      replace H_rs1 := Aside0.mk (cell_on H_rs1.out hb)
      replace H_zrs1 := Aside0.mk (frz_on H_zrs1.out hb)
      replace HB := Aside0.mk (below_then HB.out HB.out.size hb)
      clear hb
      have hhb := H_rs0.out.2
      have x_rs0 := H_rs0.out.1
      have x_rs1 := H_rs1.out.1
      have x_zrs0 := H_zrs0.out.1
      have x_zrs1 := H_zrs1.out.1
      go_upto_region 7 with fail
      clear x_rs0 x_rs1 x_zrs0 x_zrs1
      obtain ⟨w6, hW⟩ : ∃ W_, W_ = (w5.setCell ⟨w.heap.size + 1, 0, none⟩ (.int .i64 row)).setCell ⟨w.heap.size + 1, 1, none⟩ (.int .i64 sm) := ⟨_, rfl⟩
      rw [← hW]
      have hts := two_set H_rs0.out.1 H_rs1.out.1 (.int .i64 row) (.int .i64 sm)
      rw [← hW] at hts
      have hsz : w6.heap.size = w5.heap.size := by rw [hW]; simp [World.setCell]
      have hb2 : Below w.heap.size w w6 := by rw [hW]; exact (HB.out.setCell (Nat.le_add_right _ _) _).setCell (Nat.le_add_right _ _) _
      replace H_ky1 := Aside0.mk (And.intro ((hts.2.2.2 _ 1 (by omega)).trans H_ky1.out.1) (show w.heap.size < w6.heap.size by rw [hsz]; exact H_ky1.out.2))
      replace H_ky2 := Aside0.mk (And.intro ((hts.2.2.2 _ 2 (by omega)).trans H_ky2.out.1) (show w.heap.size < w6.heap.size by rw [hsz]; exact H_ky2.out.2))
      replace H_ky3 := Aside0.mk (And.intro ((hts.2.2.2 _ 3 (by omega)).trans H_ky3.out.1) (show w.heap.size < w6.heap.size by rw [hsz]; exact H_ky3.out.2))
      replace H_rs0 := Aside0.mk (And.intro hts.1 (show w.heap.size + 1 < w6.heap.size by rw [hsz]; exact H_rs0.out.2))
      replace H_zrs0 := Aside0.mk (And.intro ((hts.2.2.1 0).trans H_zrs0.out.1) (show w.heap.size + 1 < w6.heap.size by rw [hsz]; exact H_zrs0.out.2))
      replace H_rs1 := Aside0.mk (And.intro hts.2.1 (show w.heap.size + 1 < w6.heap.size by rw [hsz]; exact H_rs1.out.2))
      replace H_zrs1 := Aside0.mk (And.intro ((hts.2.2.1 1).trans H_zrs1.out.1) (show w.heap.size + 1 < w6.heap.size by rw [hsz]; exact H_zrs1.out.2))
      replace HB := Aside0.mk hb2
      replace H_rows := Aside0.mk (HG.out.1.below hb2)
      replace H_own := Aside0.mk (HG.out.2.1.below hb2)
      replace H_cm := Aside0.mk (HG.out.2.2.below hb2)
      clear H_ky0 H_m hW hts hsz hb2 hhb
      rcases Decidable.em (u = 0) with hu | hu
      · skip
        subst hu
        cases b with
        | false =>
          have x_ky1 := H_ky1.out.1
          have x_ky2 := H_ky2.out.1
          have x_ky3 := H_ky3.out.1
          have x_rs0 := H_rs0.out.1
          have x_rs1 := H_rs1.out.1
          go_wp2_with fail
          clear x_ky1 x_ky2 x_ky3 x_rs0 x_rs1
          refine (HFT.out _ H_rows.out H_own.out H_cm.out).mono ?_
          rintro e w7 ⟨rfl, hb⟩
          replace H_rows := Aside0.mk (H_rows.out.below hb)
          replace H_own := Aside0.mk (H_own.out.below hb)
          replace H_cm := Aside0.mk (H_cm.out.below hb)
          replace H_ky1 := Aside0.mk (cell_on H_ky1.out hb)
          replace H_ky2 := Aside0.mk (cell_on H_ky2.out hb)
          replace H_ky3 := Aside0.mk (cell_on H_ky3.out hb)
          replace H_rs0 := Aside0.mk (cell_on H_rs0.out hb)
          replace H_zrs0 := Aside0.mk (frz_on H_zrs0.out hb)
          replace H_rs1 := Aside0.mk (cell_on H_rs1.out hb)
          replace H_zrs1 := Aside0.mk (frz_on H_zrs1.out hb)
          replace HB := Aside0.mk (below_then HB.out HB.out.size hb)
          clear hb
          have hhb := H_rs0.out.2
          have x_rs0 := H_rs0.out.1
          have x_rs1 := H_rs1.out.1
          have x_zrs0 := H_zrs0.out.1
          have x_zrs1 := H_zrs1.out.1
          go_wp2
          have hts := two_set H_rs0.out.1 H_rs1.out.1 (.int .i64 0) (.int .i64 0)
          refine bodyPost_ret (results_fin _ _ (w.heap.size + 1) (.int .i64 0) (.int .i64 0) _ _ rfl rfl rfl hts.1 hts.2.1) rfl ?_
          exact ⟨ret_fin (by rw [HF.out]; simp), (HB.out.setCell (Nat.le_add_right _ _) _).setCell (Nat.le_add_right _ _) _⟩
        | true =>
          have x_ky1 := H_ky1.out.1
          have x_ky2 := H_ky2.out.1
          have x_ky3 := H_ky3.out.1
          have x_rs0 := H_rs0.out.1
          have x_rs1 := H_rs1.out.1
          go_wp2_with fail
          clear x_ky1 x_ky2 x_ky3 x_rs0 x_rs1
          refine (HFT.out _ H_rows.out H_own.out H_cm.out).mono ?_
          rintro e w7 ⟨rfl, hb⟩
          replace H_rows := Aside0.mk (H_rows.out.below hb)
          replace H_own := Aside0.mk (H_own.out.below hb)
          replace H_cm := Aside0.mk (H_cm.out.below hb)
          replace H_ky1 := Aside0.mk (cell_on H_ky1.out hb)
          replace H_ky2 := Aside0.mk (cell_on H_ky2.out hb)
          replace H_ky3 := Aside0.mk (cell_on H_ky3.out hb)
          replace H_rs0 := Aside0.mk (cell_on H_rs0.out hb)
          replace H_zrs0 := Aside0.mk (frz_on H_zrs0.out hb)
          replace H_rs1 := Aside0.mk (cell_on H_rs1.out hb)
          replace H_zrs1 := Aside0.mk (frz_on H_zrs1.out hb)
          replace HB := Aside0.mk (below_then HB.out HB.out.size hb)
          clear hb
          have hhb := H_rs0.out.2
          have x_rs0 := H_rs0.out.1
          have x_rs1 := H_rs1.out.1
          have x_zrs0 := H_zrs0.out.1
          have x_zrs1 := H_zrs1.out.1
          go_wp2
          have hts := two_set H_rs0.out.1 H_rs1.out.1 (.int .i64 row) (.int .i64 sm)
          refine bodyPost_ret (results_fin _ _ (w.heap.size + 1) (.int .i64 row) (.int .i64 sm) _ _ rfl rfl rfl hts.1 hts.2.1) rfl ?_
          exact ⟨ret_fin (by rw [HF.out]; simp), (HB.out.setCell (Nat.le_add_right _ _) _).setCell (Nat.le_add_right _ _) _⟩
      · skip
        have q1 : (u == 0) = false := beq_eq_false_iff_ne.mpr hu
        have q2 : (u != 0) = true := bne_iff_ne.mpr hu
        have HU := Aside0.mk hu
        have x_ky1 := H_ky1.out.1
        have x_ky2 := H_ky2.out.1
        have x_ky3 := H_ky3.out.1
        have x_rs0 := H_rs0.out.1
        have x_rs1 := H_rs1.out.1
        go_wp2_with fail
        clear x_ky1 x_ky2 x_ky3 x_rs0 x_rs1
        refine (HFT.out _ H_rows.out H_own.out H_cm.out).mono ?_
        rintro e w7 ⟨rfl, hb⟩
        replace H_rows := Aside0.mk (H_rows.out.below hb)
        replace H_own := Aside0.mk (H_own.out.below hb)
        replace H_cm := Aside0.mk (H_cm.out.below hb)
        replace H_ky1 := Aside0.mk (cell_on H_ky1.out hb)
        replace H_ky2 := Aside0.mk (cell_on H_ky2.out hb)
        replace H_ky3 := Aside0.mk (cell_on H_ky3.out hb)
        replace H_rs0 := Aside0.mk (cell_on H_rs0.out hb)
        replace H_zrs0 := Aside0.mk (frz_on H_zrs0.out hb)
        replace H_rs1 := Aside0.mk (cell_on H_rs1.out hb)
        replace H_zrs1 := Aside0.mk (frz_on H_zrs1.out hb)
        replace HB := Aside0.mk (below_then HB.out HB.out.size hb)
        clear hb
        have hhb := H_rs0.out.2
        have x_rs0 := H_rs0.out.1
        have x_rs1 := H_rs1.out.1
        have x_zrs0 := H_zrs0.out.1
        have x_zrs1 := H_zrs1.out.1
        go_wp2
        have hts := two_set H_rs0.out.1 H_rs1.out.1 (.int .i64 0) (.int .i64 0)
        refine bodyPost_ret (results_fin _ _ (w.heap.size + 1) (.int .i64 0) (.int .i64 0) _ _ rfl rfl rfl hts.1 hts.2.1) rfl ?_
        exact ⟨ret_fin (by rw [HF.out]; simp [HU.out]), (HB.out.setCell (Nat.le_add_right _ _) _).setCell (Nat.le_add_right _ _) _⟩
  · skip
    have q1 : (t == 0) = false := beq_eq_false_iff_ne.mpr h
    have q2 : (t != 0) = true := bne_iff_ne.mpr h
    have HU := Aside0.mk h
    have hhb := H_rs0.out.2
    have x_rs0 := H_rs0.out.1
    have x_rs1 := H_rs1.out.1
    have x_zrs0 := H_zrs0.out.1
    have x_zrs1 := H_zrs1.out.1
    go_wp2
    have hts := two_set H_rs0.out.1 H_rs1.out.1 (.int .i64 0) (.int .i64 0)
    refine bodyPost_ret (results_fin _ _ (w.heap.size + 1) (.int .i64 0) (.int .i64 0) _ _ rfl rfl rfl hts.1 hts.2.1) rfl ?_
    exact ⟨ret_fin (by rw [HF.out]; simp [HU.out]), (HB.out.setCell (Nat.le_add_right _ _) _).setCell (Nat.le_add_right _ _) _⟩
end Go.Proofs.Ytdbamhckgaoibaa.P
