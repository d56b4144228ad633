/- A part of the proof of RebuildFinishSpec: The calls of signatoryref34.Few, signatoryref34.Number, signatoryref34.power, signatoryref34.Commits, signatoryref34.public, signatoryref34.Public, signatoryref; The reference's Public and Fits, in plain words.; rebuild.all, sum and Part in plain words.; rebuild.Part in plain words.; rebuild.Finish in plain words. -/
import Derived.Test.YtdbamhckgaoibaaZRF5
import Derived.Deep.RegionWith
import Derived.Laws.ResultCell
namespace Go.Proofs.Ytdbamhckgaoibaa.P
open Go.RowKit Go.Proofs.YtdbamhckgaoibaaW.PrintWords Go.Proofs.YtdbamhckgaoibaaW.PrintLast Go.Proofs.YtdbamhckgaoibaaW.PrintMore
attribute [local go_sem] max2_int min2_int max_two min_two max_three min_three max_four min_four
set_option linter.unusedVariables false
set_option linter.unusedSimpArgs false
def signatoryref34_Number.f (a0 : Int) : Option (Bool) := if a0 ≥ 0 then (some (decide (a0 < 1073741789))) else (some false)
set_option maxHeartbeats 8000000 in
set_option maxRecDepth 100000 in
theorem signatoryref34_Number.calls (a0 : Int) (r : Bool) (w : World) (h : signatoryref34_Number.f a0 = some r) :
  Calls Try.prog 87 #[.int .i64 a0] w fun e w' => e = .returned (.bool r) ∧ Drawn0 w w' := by
 have H : (if a0 ≥ 0 then (some (decide (a0 < 1073741789))) else (some false)) = some r := h
 clear h
 by_cases c2 : a0 ≥ 0
 ·rw [if_pos c2] at H
  have c2b0 : decide (0 ≤ a0) = true := decide_eq_true c2
  clear c2
  obtain rfl := Option.some.inj H
  go_enter Try.func87, Try.ntmps87
  go_wp2
  go_ret
  exact ⟨by first | rfl | (simp; done) | (simp [*]; done), by repeat (first | exact Drawn0.refl _ | apply Drawn0.step)⟩
 ·rw [if_neg c2] at H
  have c2b0 : decide (0 ≤ a0) = false := decide_eq_false c2
  clear c2
  obtain rfl := Option.some.inj H
  go_enter Try.func87, Try.ntmps87
  go_wp2
  go_ret
  exact ⟨by first | rfl | (simp; done) | (simp [*]; done), by repeat (first | exact Drawn0.refl _ | apply Drawn0.step)⟩
def signatoryref34_power.f (k : Nat) (a0 : Int) (a1 : Int) : Option (Int) := (signatoryref10_Pow.f k a0 a1).bind fun bt239 => (some bt239.1)
set_option maxHeartbeats 8000000 in
set_option maxRecDepth 100000 in
theorem signatoryref34_power.calls (k : Nat) (a0 : Int) (a1 : Int) (r : Int) (w : World) (h : signatoryref34_power.f k a0 a1 = some r) :
  Calls Try.prog 90 #[.int .i64 a0, .int .i64 a1] w fun e w' => e = .returned (.int .i64 r) ∧ Drawn0 w w' := by
 have H : ((signatoryref10_Pow.f k a0 a1).bind fun bt239 => (some bt239.1)) = some r := h
 clear h
 replace H := Option.bind_eq_some_iff.mp H
 obtain ⟨⟨t239, t240⟩, A30, H⟩ := H
 replace H : (some t239) = some r := H
 have A3 := Aside0.mk A30
 clear A30
 obtain rfl := Option.some.inj H
 go_enter Try.func90, Try.ntmps90
 go_wp2_with (first | ((with_reducible refine gate_callee (f := 168) rfl ?_); refine goesL_ (some 10) rfl rfl Try.func168 (by kernel_rfl) rfl #[.int .i64 a0, .int .i64 a1] rfl (by (try simp only [List.map_toArray, List.map_cons, List.map_nil]); first | done | rfl | (simp only [List.length_drop, List.length_take]; rfl)) ?_; (with_reducible refine (signatoryref10_Pow.calls k a0 a1 t239 t240 _ A3.out).mono ?_); rintro e w' ⟨rfl, ⟨nd, rfl⟩⟩; refine ⟨_, rfl, ?_⟩))
 go_ret
 exact ⟨by first | rfl | (simp; done) | (simp [*]; done), by repeat (first | exact Drawn0.refl _ | apply Drawn0.step)⟩
def signatoryref34_Commits.l0 : Nat → List Int → Int → List (List Int) → List Int → Option (Bool)
 | 0, _, _, _, _ => none
 | k + 1, x1, x5, x269000, x269001 => if x5 < (x1.length : Int) then (if 0 ≤ x5 then ((signatoryref10_Valid.f k (rd x1 x5)).bind fun t270 => (if t270 = true then (signatoryref34_Commits.l0 k x1 (wrap64 (x5 + 1)) x269000 x269001) else (some false))) else (none)) else ((signatoryref34_Columns.f x269000 x269001).bind fun t271 => (some ((x1.length : Int) == t271)))
def signatoryref34_Commits.f (k : Nat) (l0_0 : List (List Int)) (l0_1 : List Int) (l1 : List Int) : Option (Bool) := signatoryref34_Commits.l0 k l1 0 l0_0 l0_1
set_option maxHeartbeats 8000000 in
set_option maxRecDepth 100000 in
theorem signatoryref34_Commits.calls (k : Nat) (A0_0 : Option Addr) (c0_0 : Nat) (l0_0 : List (List Int)) (A0_1 : Option Addr) (c0_1 : Nat) (l0_1 : List Int) (A1 : Option Addr) (c1 : Nat) (l1 : List Int) (r : Bool) (w : World) (hr0_0 : Kd.C (Kd.slice 3 (Kd.int .i64)) w A0_0 l0_0.length l0_0) (hc0_0 : l0_0.length ≤ c0_0) (hr0_1 : Kd.C (Kd.int .i64) w A0_1 l0_1.length l0_1) (hc0_1 : l0_1.length ≤ c0_1) (hr1 : Kd.C (Kd.int .i64) w A1 l1.length l1) (hc1 : l1.length ≤ c1) (h : signatoryref34_Commits.f k l0_0 l0_1 l1 = some r) :
  Calls Try.prog 101 #[.agg #[.slice A0_0 l0_0.length c0_0, .slice A0_1 l0_1.length c0_1], .slice A1 l1.length c1] w fun e w' => e = .returned (.bool r) ∧ Below w.heap.size w w' := by
 have hu25 := Try.underlying25
 have HR0_0 := Aside0.mk hr0_0
 have HC0_0 := Aside0.mk hc0_0
 clear hr0_0 hc0_0
 have HR0_1 := Aside0.mk hr0_1
 have HC0_1 := Aside0.mk hc0_1
 clear hr0_1 hc0_1
 have HR1 := Aside0.mk hr1
 have HC1 := Aside0.mk hc1
 clear hr1 hc1
 have HB := Aside0.mk (Below.refl w.heap.size w)
 have H : (signatoryref34_Commits.l0 k l1 0 l0_0 l0_1) = some r := h
 clear h
 have H' := Aside0.mk H
 clear H
 go_enter Try.func101, Try.ntmps101
 go_wp2_with (first | ((with_reducible refine gate_dst (N := 2) rfl ?_); refine box_event ?hg (N := 2) ?hd (cs := #[.slice A0_0 l0_0.length c0_0, .slice A0_1 l0_1.length c0_1]) (t := 25) ?hr ?_; (case hd => rfl); (case hg => rfl); (case hr => first | (go_simp; done) | (go_simp; rfl)); intro gb268 hg w3 hbox hb; have n0_ := Aside0.mk (below_step (by repeat (first | (with_reducible first | exact HB.out | apply below_alloc | apply pw_below_drewN | apply below_drew1) | exact HB.out)) hb); have n1_ := Aside0.mk (hbox); have n2_ := Aside0.mk ((by rw [hg]; exact (below_size (by repeat (first | (with_reducible first | exact HB.out | apply below_alloc | apply pw_below_drewN | apply below_drew1) | exact HB.out))) : w.heap.size ≤ gb268)); have n3_ := Aside0.mk ((by rw [hg]; exact (below_size (by repeat (first | (with_reducible first | exact HB.out | apply below_alloc | apply pw_below_drewN | apply below_drew1) | exact HB.out))) : w.heap.size ≤ gb268)); clear HB; have HB := n0_; have BK268 := n1_; have GW268 := n2_; have GE268 := n3_; clear n0_ n1_ n2_ n3_; clear hb hbox hg))
 go_loopg [5] k (fun kq v5 w' => ∃ (x5_1 : Int), v5 = .int .i64 x5_1 ∧ Aside0 (signatoryref34_Commits.l0 kq l1 x5_1 l0_0 l0_1 = some r) ∧ Aside0 (kq ≤ k) ∧ Aside0 (w'.heap[gb268]? = some (.cells #[(.slice A0_0 l0_0.length c0_0), (.slice A0_1 l0_1.length c0_1)] 25 (0, 0))) ∧ Aside0 (Below w.heap.size w w'))
 case atStart => exact ⟨(0), (by first | rfl | (simp; done) | (simp [*]; done)), H', ⟨Nat.le_refl _⟩, ⟨by (with_reducible repeat (first | refine blk_drewN ?_ _ | refine blk_drew ?_ | refine blk_alloc ?_ _)); exact BK268.out⟩, ⟨by repeat (first | (with_reducible first | exact HB.out | apply below_alloc | apply pw_below_drewN | apply below_drew1 | refine below_set ?_ GE268.out) | exact HB.out)⟩⟩
 case round =>
  clear H'
  try clear c1
  try clear p2
  obtain ⟨x5_1, rfl, HA, HK1, BK268, HB⟩ := hrel
  cases gk with
  | zero => exact absurd HA.out (by simp [signatoryref34_Commits.l0])
  | succ k1 =>
   have H := HA.out
   clear HA
   simp only [signatoryref34_Commits.l0] at H
   by_cases c4 : x5_1 < (l1.length : Int)
   ·rw [if_pos c4] at H
    have c4b0 : decide (x5_1 < (l1.length : Int)) = true := decide_eq_true c4
    clear c4
    by_cases c5 : 0 ≤ x5_1
    ·rw [if_pos c5] at H
     have c5b0 : decide (0 ≤ x5_1) = true := decide_eq_true c5
     clear c5
     replace H := Option.bind_eq_some_iff.mp H
     obtain ⟨t270, A60, H⟩ := H
     replace H : (if t270 = true then (signatoryref34_Commits.l0 k1 l1 (wrap64 (x5_1 + 1)) l0_0 l0_1) else (some false)) = some r := H
     have A6 := Aside0.mk A60
     clear A60
     by_cases c7 : t270 = true
     ·subst c7
      have H1 : (signatoryref34_Commits.l0 k1 l1 (wrap64 (x5_1 + 1)) l0_0 l0_1) = some r := by rw [if_pos rfl] at H; exact H
      clear H
      have H := H1
      clear H1
      have H' := Aside0.mk H
      clear H
      have p269 : 0 ≤ (x5_1 : Int) := of_decide_eq_true (by first | (with_reducible assumption) | assumption)
      have q269 : x5_1 < (l1.length : Int) := of_decide_eq_true (by first | (with_reducible assumption) | assumption)
      obtain ⟨ad269, e269, hx269_0⟩ := Kd.at_int HR1.out x5_1 p269 q269
      cases e269
      replace hx269_0 := (HB.out.cell (World.block_lt_of_cell? w _ hx269_0)).trans hx269_0
      replace p269 := eq_true p269
      replace q269 := eq_true q269
      go_wp2_with (first | ((with_reducible refine gate_callee (f := 176) rfl ?_); refine goesL_ (some 16) rfl rfl Try.func176 (by kernel_rfl) rfl #[.int .i64 (rd l1 x5_1)] rfl (by (try simp only [List.map_toArray, List.map_cons, List.map_nil]); first | done | rfl | (simp only [List.length_drop, List.length_take]; rfl)) ?_; (with_reducible refine (signatoryref10_Valid.calls k1 (rd l1 x5_1) true _ A6.out).mono ?_); rintro e w' ⟨rfl, ⟨nd, rfl⟩⟩; refine ⟨_, rfl, ?_⟩))
      go_roundg k1
      case measure => have := HK1.out; omega
      case rel => exact ⟨(wrap64 (x5_1 + 1)), (by first | rfl | (simp; done) | (simp [*]; done)), H', ⟨by have := HK1.out; omega⟩, ⟨by (with_reducible repeat (first | refine blk_drewN ?_ _ | refine blk_drew ?_ | refine blk_alloc ?_ _)); exact BK268.out⟩, ⟨by repeat (first | (with_reducible first | exact HB.out | apply below_alloc | apply pw_below_drewN | apply below_drew1 | refine below_set ?_ GE268.out) | exact HB.out)⟩⟩
     ·replace c7 := Bool.eq_false_iff.mpr c7
      subst c7
      have H1 : (some false) = some r := by rw [if_neg (show ¬ (false = true) by decide)] at H; exact H
      clear H
      have H := H1
      clear H1
      obtain rfl := Option.some.inj H
      have p269 : 0 ≤ (x5_1 : Int) := of_decide_eq_true (by first | (with_reducible assumption) | assumption)
      have q269 : x5_1 < (l1.length : Int) := of_decide_eq_true (by first | (with_reducible assumption) | assumption)
      obtain ⟨ad269, e269, hx269_0⟩ := Kd.at_int HR1.out x5_1 p269 q269
      cases e269
      replace hx269_0 := (HB.out.cell (World.block_lt_of_cell? w _ hx269_0)).trans hx269_0
      replace p269 := eq_true p269
      replace q269 := eq_true q269
      go_wp2_with (first | ((with_reducible refine gate_callee (f := 176) rfl ?_); refine goesL_ (some 16) rfl rfl Try.func176 (by kernel_rfl) rfl #[.int .i64 (rd l1 x5_1)] rfl (by (try simp only [List.map_toArray, List.map_cons, List.map_nil]); first | done | rfl | (simp only [List.length_drop, List.length_take]; rfl)) ?_; (with_reducible refine (signatoryref10_Valid.calls k1 (rd l1 x5_1) false _ A6.out).mono ?_); rintro e w' ⟨rfl, ⟨nd, rfl⟩⟩; refine ⟨_, rfl, ?_⟩))
      go_ret
      exact ⟨by first | rfl | (simp [errW_none, errW_some] <;> rfl) | (simp [*, errW_none, errW_some] <;> rfl), by repeat (first | (with_reducible first | exact HB.out | apply below_alloc | apply pw_below_drewN | apply below_drew1 | refine below_set ?_ GE268.out) | exact HB.out)⟩
    ·rw [if_neg c5] at H
     exact absurd H (by simp)
   ·rw [if_neg c4] at H
    have c4b0 : decide (x5_1 < (l1.length : Int)) = false := decide_eq_false c4
    clear c4
    replace H := Option.bind_eq_some_iff.mp H
    obtain ⟨t271, A80, H⟩ := H
    replace H : (some ((l1.length : Int) == t271)) = some r := H
    have A8 := Aside0.mk A80
    clear A80
    obtain rfl := Option.some.inj H
    have hcz9_0 : wr.cell? ⟨gb268, 0, none⟩ = some (.slice A0_0 l0_0.length c0_0) := (blk_cell BK268.out 0).trans rfl
    have hcz9_1 : wr.cell? ⟨gb268, 1, none⟩ = some (.slice A0_1 l0_1.length c0_1) := (blk_cell BK268.out 1).trans rfl
    have hfz9_0 := blk_frozen BK268.out 0
    have hfz9_1 := blk_frozen BK268.out 1
    go_wp2_with (first | ((with_reducible refine gate_callee (f := 35) rfl ?_); refine goesL_ (some 21) rfl rfl Try.func35 (by kernel_rfl) rfl #[.agg #[.slice A0_0 l0_0.length c0_0, .slice A0_1 l0_1.length c0_1]] rfl (by (try simp only [List.map_toArray, List.map_cons, List.map_nil]); first | done | rfl | (simp only [List.length_drop, List.length_take]; rfl)) ?_; (with_reducible refine (signatoryref34_Columns.calls _ _ l0_0 _ _ l0_1 t271 _ ?side1 ?side2 ?side3 ?side4 A8.out).mono ?_); (case side1 => repeat (first | exact (Kd.C_below HR0_0.out HB.out) | (with_reducible refine Kd.C_alloc ?_ _) | (with_reducible refine Kd.C_drewN ?_ _) | (with_reducible refine Kd.C_drew ?_))); (case side2 => exact HC0_0.out); (case side3 => repeat (first | exact (Kd.C_below HR0_1.out HB.out) | (with_reducible refine Kd.C_alloc ?_ _) | (with_reducible refine Kd.C_drewN ?_ _) | (with_reducible refine Kd.C_drew ?_))); (case side4 => exact HC0_1.out); rintro e w10 ⟨rfl, hb⟩; refine ⟨_, rfl, ?_⟩; have n0_ := Aside0.mk (blk_below (g := gb268) (o := .cells #[.slice A0_0 l0_0.length c0_0, .slice A0_1 l0_1.length c0_1] 25 (0, 0)) (by (with_reducible repeat (first | refine blk_drewN ?_ _ | refine blk_drew ?_ | refine blk_alloc ?_ _)); exact BK268.out) hb); have n1_ := Aside0.mk (below_step (by repeat (first | (with_reducible first | exact HB.out | apply below_alloc | apply pw_below_drewN | apply below_drew1 | refine below_set ?_ GE268.out) | exact HB.out)) hb); clear BK268; clear HB; have BK268 := n0_; have HB := n1_; clear n0_ n1_; (try clear hb); (try clear hb2); (try clear hk); (try clear hi)))
    go_ret
    exact ⟨by first | rfl | (simp [errW_none, errW_some] <;> rfl) | (simp [*, errW_none, errW_some] <;> rfl), by repeat (first | (with_reducible first | exact HB.out | apply below_alloc | apply pw_below_drewN | apply below_drew1 | refine below_set ?_ GE268.out) | exact HB.out)⟩
def signatoryref34_public.l0 : Nat → List Int → Int → Int → Int → List (List Int) → List Int → Option (Int)
 | 0, _, _, _, _, _, _ => none
 | k + 1, x1, x2, x7, x8, x273000, x273001 => if x8 < (x1.length : Int) then (if 0 ≤ x8 then (if 0 ≤ x2 then (if x2 < (x273000.length : Int) then (if x8 < ((rd_L1 x273000 x2).length : Int) then ((signatoryref34_power.f k (rd x1 x8) (rd (rd_L1 x273000 x2) x8)).bind fun t276 => ((signatoryref10_Mul.f k x7 t276).bind fun bt277 => (signatoryref34_public.l0 k x1 x2 bt277.1 (wrap64 (x8 + 1)) x273000 x273001))) else (none)) else (none)) else (none)) else (none)) else (some x7)
def signatoryref34_public.f (k : Nat) (l0_0 : List (List Int)) (l0_1 : List Int) (l1 : List Int) (a2 : Int) : Option (Int) := signatoryref34_public.l0 k l1 a2 1 0 l0_0 l0_1
set_option maxHeartbeats 8000000 in
set_option maxRecDepth 100000 in
theorem signatoryref34_public.calls (k : Nat) (A0_0 : Option Addr) (c0_0 : Nat) (l0_0 : List (List Int)) (A0_1 : Option Addr) (c0_1 : Nat) (l0_1 : List Int) (A1 : Option Addr) (c1 : Nat) (l1 : List Int) (a2 : Int) (r : Int) (w : World) (hr0_0 : Kd.C (Kd.slice 3 (Kd.int .i64)) w A0_0 l0_0.length l0_0) (hc0_0 : l0_0.length ≤ c0_0) (hr0_1 : Kd.C (Kd.int .i64) w A0_1 l0_1.length l0_1) (hc0_1 : l0_1.length ≤ c0_1) (hr1 : Kd.C (Kd.int .i64) w A1 l1.length l1) (hc1 : l1.length ≤ c1) (h : signatoryref34_public.f k l0_0 l0_1 l1 a2 = some r) :
  Calls Try.prog 102 #[.agg #[.slice A0_0 l0_0.length c0_0, .slice A0_1 l0_1.length c0_1], .slice A1 l1.length c1, .int .i64 a2] w fun e w' => e = .returned (.int .i64 r) ∧ Below w.heap.size w w' := by
 have hu25 := Try.underlying25
 have HR0_0 := Aside0.mk hr0_0
 have HC0_0 := Aside0.mk hc0_0
 clear hr0_0 hc0_0
 have HR0_1 := Aside0.mk hr0_1
 have HC0_1 := Aside0.mk hc0_1
 clear hr0_1 hc0_1
 have HR1 := Aside0.mk hr1
 have HC1 := Aside0.mk hc1
 clear hr1 hc1
 have HB := Aside0.mk (Below.refl w.heap.size w)
 have H : (signatoryref34_public.l0 k l1 a2 1 0 l0_0 l0_1) = some r := h
 clear h
 have H' := Aside0.mk H
 clear H
 go_enter Try.func102, Try.ntmps102
 go_wp2_with (first | ((with_reducible refine gate_dst (N := 3) rfl ?_); refine box_event ?hg (N := 3) ?hd (cs := #[.slice A0_0 l0_0.length c0_0, .slice A0_1 l0_1.length c0_1]) (t := 25) ?hr ?_; (case hd => rfl); (case hg => rfl); (case hr => first | (go_simp; done) | (go_simp; rfl)); intro gb272 hg w4 hbox hb; have n0_ := Aside0.mk (below_step (by repeat (first | (with_reducible first | exact HB.out | apply below_alloc | apply pw_below_drewN | apply below_drew1) | exact HB.out)) hb); have n1_ := Aside0.mk (hbox); have n2_ := Aside0.mk ((by rw [hg]; exact (below_size (by repeat (first | (with_reducible first | exact HB.out | apply below_alloc | apply pw_below_drewN | apply below_drew1) | exact HB.out))) : w.heap.size ≤ gb272)); have n3_ := Aside0.mk ((by rw [hg]; exact (below_size (by repeat (first | (with_reducible first | exact HB.out | apply below_alloc | apply pw_below_drewN | apply below_drew1) | exact HB.out))) : w.heap.size ≤ gb272)); clear HB; have HB := n0_; have BK272 := n1_; have GW272 := n2_; have GE272 := n3_; clear n0_ n1_ n2_ n3_; clear hb hbox hg))
 repeat (go_quiet (first | ((with_reducible refine gate_dst (N := 3) rfl ?_); refine box_event ?hg (N := 3) ?hd (cs := #[.slice A0_0 l0_0.length c0_0, .slice A0_1 l0_1.length c0_1]) (t := 25) ?hr ?_; (case hd => rfl); (case hg => rfl); (case hr => first | (go_simp; done) | (go_simp; rfl)); intro gb272 hg w4 hbox hb; have n0_ := Aside0.mk (below_step (by repeat (first | (with_reducible first | exact HB.out | apply below_alloc | apply pw_below_drewN | apply below_drew1) | exact HB.out)) hb); have n1_ := Aside0.mk (hbox); have n2_ := Aside0.mk ((by rw [hg]; exact (below_size (by repeat (first | (with_reducible first | exact HB.out | apply below_alloc | apply pw_below_drewN | apply below_drew1) | exact HB.out))) : w.heap.size ≤ gb272)); have n3_ := Aside0.mk ((by rw [hg]; exact (below_size (by repeat (first | (with_reducible first | exact HB.out | apply below_alloc | apply pw_below_drewN | apply below_drew1) | exact HB.out))) : w.heap.size ≤ gb272)); clear HB; have HB := n0_; have BK272 := n1_; have GW272 := n2_; have GE272 := n3_; clear n0_ n1_ n2_ n3_; clear hb hbox hg)); try go_wp2_with (first | ((with_reducible refine gate_dst (N := 3) rfl ?_); refine box_event ?hg (N := 3) ?hd (cs := #[.slice A0_0 l0_0.length c0_0, .slice A0_1 l0_1.length c0_1]) (t := 25) ?hr ?_; (case hd => rfl); (case hg => rfl); (case hr => first | (go_simp; done) | (go_simp; rfl)); intro gb272 hg w4 hbox hb; have n0_ := Aside0.mk (below_step (by repeat (first | (with_reducible first | exact HB.out | apply below_alloc | apply pw_below_drewN | apply below_drew1) | exact HB.out)) hb); have n1_ := Aside0.mk (hbox); have n2_ := Aside0.mk ((by rw [hg]; exact (below_size (by repeat (first | (with_reducible first | exact HB.out | apply below_alloc | apply pw_below_drewN | apply below_drew1) | exact HB.out))) : w.heap.size ≤ gb272)); have n3_ := Aside0.mk ((by rw [hg]; exact (below_size (by repeat (first | (with_reducible first | exact HB.out | apply below_alloc | apply pw_below_drewN | apply below_drew1) | exact HB.out))) : w.heap.size ≤ gb272)); clear HB; have HB := n0_; have BK272 := n1_; have GW272 := n2_; have GE272 := n3_; clear n0_ n1_ n2_ n3_; clear hb hbox hg)))
 go_loopg [7, 8] k (fun kq v7 v8 w' => ∃ (x7_1 : Int) (x8_1 : Int), v7 = .int .i64 x7_1 ∧ v8 = .int .i64 x8_1 ∧ Aside0 (signatoryref34_public.l0 kq l1 a2 x7_1 x8_1 l0_0 l0_1 = some r) ∧ Aside0 (kq ≤ k) ∧ Aside0 (w'.heap[gb272]? = some (.cells #[(.slice A0_0 l0_0.length c0_0), (.slice A0_1 l0_1.length c0_1)] 25 (0, 0))) ∧ Aside0 (Below w.heap.size w w'))
 case atStart => exact ⟨(1), (0), (by first | rfl | (simp; done) | (simp [*]; done)), (by first | rfl | (simp; done) | (simp [*]; done)), H', ⟨Nat.le_refl _⟩, ⟨by (with_reducible repeat (first | refine blk_drewN ?_ _ | refine blk_drew ?_ | refine blk_alloc ?_ _)); exact BK272.out⟩, ⟨by repeat (first | (with_reducible first | exact HB.out | apply below_alloc | apply pw_below_drewN | apply below_drew1 | refine below_set ?_ GE272.out) | exact HB.out)⟩⟩
 case round =>
  clear H'
  try clear c1
  try clear p2
  obtain ⟨x7_1, x8_1, rfl, rfl, HA, HK1, BK272, HB⟩ := hrel
  cases gk with
  | zero => exact absurd HA.out (by simp [signatoryref34_public.l0])
  | succ k1 =>
   have H := HA.out
   clear HA
   simp only [signatoryref34_public.l0] at H
   by_cases c5 : x8_1 < (l1.length : Int)
   ·rw [if_pos c5] at H
    have c5b0 : decide (x8_1 < (l1.length : Int)) = true := decide_eq_true c5
    clear c5
    by_cases c6 : 0 ≤ x8_1
    ·rw [if_pos c6] at H
     have c6b0 : decide (0 ≤ x8_1) = true := decide_eq_true c6
     clear c6
     by_cases c7 : 0 ≤ a2
     ·rw [if_pos c7] at H
      have c7b0 : decide (0 ≤ a2) = true := decide_eq_true c7
      clear c7
      by_cases c8 : a2 < (l0_0.length : Int)
      ·rw [if_pos c8] at H
       have c8b0 : decide (a2 < (l0_0.length : Int)) = true := decide_eq_true c8
       clear c8
       by_cases c9 : x8_1 < ((rd_L1 l0_0 a2).length : Int)
       ·rw [if_pos c9] at H
        have c9b0 : decide (x8_1 < ((rd_L1 l0_0 a2).length : Int)) = true := decide_eq_true c9
        clear c9
        replace H := Option.bind_eq_some_iff.mp H
        obtain ⟨t276, A100, H⟩ := H
        replace H : ((signatoryref10_Mul.f k1 x7_1 t276).bind fun bt277 => (signatoryref34_public.l0 k1 l1 a2 bt277.1 (wrap64 (x8_1 + 1)) l0_0 l0_1)) = some r := H
        have A10 := Aside0.mk A100
        clear A100
        replace H := Option.bind_eq_some_iff.mp H
        obtain ⟨⟨t277, t278⟩, A110, H⟩ := H
        replace H : (signatoryref34_public.l0 k1 l1 a2 t277 (wrap64 (x8_1 + 1)) l0_0 l0_1) = some r := H
        have A11 := Aside0.mk A110
        clear A110
        have H' := Aside0.mk H
        clear H
        have p273 : 0 ≤ (x8_1 : Int) := of_decide_eq_true (by first | (with_reducible assumption) | assumption)
        have q273 : x8_1 < (l1.length : Int) := of_decide_eq_true (by first | (with_reducible assumption) | assumption)
        obtain ⟨ad273, e273, hx273_0⟩ := Kd.at_int HR1.out x8_1 p273 q273
        cases e273
        replace hx273_0 := (HB.out.cell (World.block_lt_of_cell? w _ hx273_0)).trans hx273_0
        replace p273 := eq_true p273
        replace q273 := eq_true q273
        have hcz12_0 : wr.cell? ⟨gb272, 0, none⟩ = some (.slice A0_0 l0_0.length c0_0) := (blk_cell BK272.out 0).trans rfl
        have hcz12_1 : wr.cell? ⟨gb272, 1, none⟩ = some (.slice A0_1 l0_1.length c0_1) := (blk_cell BK272.out 1).trans rfl
        have hfz12_0 := blk_frozen BK272.out 0
        have hfz12_1 := blk_frozen BK272.out 1
        have p274 : 0 ≤ (a2 : Int) := of_decide_eq_true (by first | (with_reducible assumption) | assumption)
        have q274 : a2 < (l0_0.length : Int) := of_decide_eq_true (by first | (with_reducible assumption) | assumption)
        obtain ⟨ad274, A274_0, c274_0, e274, hx274_0, hl274_0, hi274_0⟩ := at_L1 HR0_0.out a2 p274 q274
        cases e274
        replace hx274_0 := (HB.out.cell (World.block_lt_of_cell? w _ hx274_0)).trans hx274_0
        have HR274_0 := Aside0.mk hi274_0
        have HC274_0 := Aside0.mk hl274_0
        clear hi274_0 hl274_0
        replace p274 := eq_true p274
        replace q274 := eq_true q274
        have p275 : 0 ≤ (x8_1 : Int) := of_decide_eq_true (by first | (with_reducible assumption) | assumption)
        have q275 : x8_1 < ((rd_L1 l0_0 a2).length : Int) := of_decide_eq_true (by first | (with_reducible assumption) | assumption)
        obtain ⟨ad275, e275, hx275_0⟩ := Kd.at_int HR274_0.out x8_1 p275 q275
        cases e275
        replace hx275_0 := (HB.out.cell (World.block_lt_of_cell? w _ hx275_0)).trans hx275_0
        replace p275 := eq_true p275
        replace q275 := eq_true q275
        go_wp2_with (first | (go_at_call 90; (with_reducible refine (signatoryref34_power.calls k1 (rd l1 x8_1) (rd (rd_L1 l0_0 a2) x8_1) t276 _ A10.out).mono ?_); rintro e w' ⟨rfl, ⟨nd, rfl⟩⟩; (try first | exact ⟨rfl, _, World.drewN_drewN _ _ _⟩ | exact ⟨rfl, _, Eq.trans (World.drewN_drewN _ _ _) (congrArg (World.drewN _) (Nat.add_assoc _ _ _))⟩)) | (go_at_call 177; (with_reducible refine (signatoryref10_Mul.calls k1 x7_1 t276 t277 t278 _ A11.out).mono ?_); rintro e w' ⟨rfl, ⟨nd, rfl⟩⟩; (try first | exact ⟨rfl, _, World.drewN_drewN _ _ _⟩ | exact ⟨rfl, _, Eq.trans (World.drewN_drewN _ _ _) (congrArg (World.drewN _) (Nat.add_assoc _ _ _))⟩)))
        repeat (go_quiet (first | (go_at_call 90; (with_reducible refine (signatoryref34_power.calls k1 (rd l1 x8_1) (rd (rd_L1 l0_0 a2) x8_1) t276 _ A10.out).mono ?_); rintro e w' ⟨rfl, ⟨nd, rfl⟩⟩; (try first | exact ⟨rfl, _, World.drewN_drewN _ _ _⟩ | exact ⟨rfl, _, Eq.trans (World.drewN_drewN _ _ _) (congrArg (World.drewN _) (Nat.add_assoc _ _ _))⟩)) | (go_at_call 177; (with_reducible refine (signatoryref10_Mul.calls k1 x7_1 t276 t277 t278 _ A11.out).mono ?_); rintro e w' ⟨rfl, ⟨nd, rfl⟩⟩; (try first | exact ⟨rfl, _, World.drewN_drewN _ _ _⟩ | exact ⟨rfl, _, Eq.trans (World.drewN_drewN _ _ _) (congrArg (World.drewN _) (Nat.add_assoc _ _ _))⟩))); try go_wp2_with (first | (go_at_call 90; (with_reducible refine (signatoryref34_power.calls k1 (rd l1 x8_1) (rd (rd_L1 l0_0 a2) x8_1) t276 _ A10.out).mono ?_); rintro e w' ⟨rfl, ⟨nd, rfl⟩⟩; (try first | exact ⟨rfl, _, World.drewN_drewN _ _ _⟩ | exact ⟨rfl, _, Eq.trans (World.drewN_drewN _ _ _) (congrArg (World.drewN _) (Nat.add_assoc _ _ _))⟩)) | (go_at_call 177; (with_reducible refine (signatoryref10_Mul.calls k1 x7_1 t276 t277 t278 _ A11.out).mono ?_); rintro e w' ⟨rfl, ⟨nd, rfl⟩⟩; (try first | exact ⟨rfl, _, World.drewN_drewN _ _ _⟩ | exact ⟨rfl, _, Eq.trans (World.drewN_drewN _ _ _) (congrArg (World.drewN _) (Nat.add_assoc _ _ _))⟩))))
        go_roundg k1
        case measure => have := HK1.out; omega
        case rel => exact ⟨(t277), (wrap64 (x8_1 + 1)), (by first | rfl | (simp; done) | (simp [*]; done)), (by first | rfl | (simp; done) | (simp [*]; done)), H', ⟨by have := HK1.out; omega⟩, ⟨by (with_reducible repeat (first | refine blk_drewN ?_ _ | refine blk_drew ?_ | refine blk_alloc ?_ _)); exact BK272.out⟩, ⟨by repeat (first | (with_reducible first | exact HB.out | apply below_alloc | apply pw_below_drewN | apply below_drew1 | refine below_set ?_ GE272.out) | exact HB.out)⟩⟩
       ·rw [if_neg c9] at H
        exact absurd H (by simp)
      ·rw [if_neg c8] at H
       exact absurd H (by simp)
     ·rw [if_neg c7] at H
      exact absurd H (by simp)
    ·rw [if_neg c6] at H
     exact absurd H (by simp)
   ·rw [if_neg c5] at H
    have c5b0 : decide (x8_1 < (l1.length : Int)) = false := decide_eq_false c5
    clear c5
    obtain rfl := Option.some.inj H
    go_wp2
    repeat (go_quiet (fail); try go_wp2)
    go_ret
    exact ⟨by first | rfl | (simp [errW_none, errW_some] <;> rfl) | (simp [*, errW_none, errW_some] <;> rfl), by repeat (first | (with_reducible first | exact HB.out | apply below_alloc | apply pw_below_drewN | apply below_drew1 | refine below_set ?_ GE272.out) | exact HB.out)⟩
def signatoryref34_share.f (l0_0 : List (List Int)) (l0_1 : List Int) (a1_0 : Int) (a1_1 : Int) : Option (Bool) := if a1_0 ≥ 0 then (if a1_0 < (l0_0.length : Int) then ((signatoryref34_Number.f a1_1).bind fun t285 => (some t285)) else (some false)) else (some false)
set_option maxHeartbeats 8000000 in
set_option maxRecDepth 100000 in
theorem signatoryref34_share.calls (A0_0 : Option Addr) (c0_0 : Nat) (l0_0 : List (List Int)) (A0_1 : Option Addr) (c0_1 : Nat) (l0_1 : List Int) (a1_0 : Int) (a1_1 : Int) (r : Bool) (w : World) (hr0_0 : Kd.C (Kd.slice 3 (Kd.int .i64)) w A0_0 l0_0.length l0_0) (hc0_0 : l0_0.length ≤ c0_0) (hr0_1 : Kd.C (Kd.int .i64) w A0_1 l0_1.length l0_1) (hc0_1 : l0_1.length ≤ c0_1) (h : signatoryref34_share.f l0_0 l0_1 a1_0 a1_1 = some r) :
  Calls Try.prog 103 #[.agg #[.slice A0_0 l0_0.length c0_0, .slice A0_1 l0_1.length c0_1], .agg #[.int .i64 a1_0, .int .i64 a1_1]] w fun e w' => e = .returned (.bool r) ∧ Below w.heap.size w w' := by
 have hu25 := Try.underlying25
 have hu38 := Try.underlying38
 have HR0_0 := Aside0.mk hr0_0
 have HC0_0 := Aside0.mk hc0_0
 clear hr0_0 hc0_0
 have HR0_1 := Aside0.mk hr0_1
 have HC0_1 := Aside0.mk hc0_1
 clear hr0_1 hc0_1
 have HB := Aside0.mk (Below.refl w.heap.size w)
 have H : (if a1_0 ≥ 0 then (if a1_0 < (l0_0.length : Int) then ((signatoryref34_Number.f a1_1).bind fun t285 => (some t285)) else (some false)) else (some false)) = some r := h
 clear h
 by_cases c3 : a1_0 ≥ 0
 ·rw [if_pos c3] at H
  have c3b0 : decide (0 ≤ a1_0) = true := decide_eq_true c3
  clear c3
  by_cases c4 : a1_0 < (l0_0.length : Int)
  ·rw [if_pos c4] at H
   have c4b0 : decide (a1_0 < (l0_0.length : Int)) = true := decide_eq_true c4
   clear c4
   replace H := Option.bind_eq_some_iff.mp H
   obtain ⟨t285, A50, H⟩ := H
   replace H : (some t285) = some r := H
   have A5 := Aside0.mk A50
   clear A50
   obtain rfl := Option.some.inj H
   go_enter Try.func103, Try.ntmps103
   go_wp2_with (first | ((with_reducible refine gate_dst (N := 2) rfl ?_); (try (refine gate_guard (by rfl) ?_; dsimp only)); refine box_event ?hg (N := 2) ?hd (cs := #[.slice A0_0 l0_0.length c0_0, .slice A0_1 l0_1.length c0_1]) (t := 25) ?hr ?_; (case hd => rfl); (case hg => rfl); (case hr => first | (go_simp; done) | (go_simp; rfl)); intro gb283 hg w6 hbox hb; have n0_ := Aside0.mk (below_step (by repeat (first | (with_reducible first | exact HB.out | apply below_alloc | apply pw_below_drewN | apply below_drew1) | exact HB.out)) hb); have n1_ := Aside0.mk (hbox); have n2_ := Aside0.mk ((by rw [hg]; exact (below_size (by repeat (first | (with_reducible first | exact HB.out | apply below_alloc | apply pw_below_drewN | apply below_drew1) | exact HB.out))) : w.heap.size ≤ gb283)); have n3_ := Aside0.mk ((by rw [hg]; exact (below_size (by repeat (first | (with_reducible first | exact HB.out | apply below_alloc | apply pw_below_drewN | apply below_drew1) | exact HB.out))) : w.heap.size ≤ gb283)); clear HB; have HB := n0_; have BK283 := n1_; have GW283 := n2_; have GE283 := n3_; clear n0_ n1_ n2_ n3_; clear hb hbox hg) | ((with_reducible refine gate_dst (N := 3) rfl ?_); (try (refine gate_guard (by rfl) ?_; dsimp only)); refine box_event ?hg (N := 3) ?hd (cs := #[.int .i64 a1_0, .int .i64 a1_1]) (t := 38) ?hr ?_; (case hd => rfl); (case hg => rfl); (case hr => first | (go_simp; done) | (go_simp; rfl)); intro gb284 hg w7 hbox hb; have n0_ := Aside0.mk (blk_below (g := gb283) (o := .cells #[.slice A0_0 l0_0.length c0_0, .slice A0_1 l0_1.length c0_1] 25 (0, 0)) (by (with_reducible repeat (first | refine blk_drewN ?_ _ | refine blk_drew ?_ | refine blk_alloc ?_ _)); exact BK283.out) hb); have n1_ := Aside0.mk (below_step (by repeat (first | (with_reducible first | exact HB.out | apply below_alloc | apply pw_below_drewN | apply below_drew1 | refine below_set ?_ GE283.out) | exact HB.out)) hb); have n2_ := Aside0.mk (hbox); have n3_ := Aside0.mk ((by rw [hg]; exact (below_size (by repeat (first | (with_reducible first | exact HB.out | apply below_alloc | apply pw_below_drewN | apply below_drew1 | refine below_set ?_ GE283.out) | exact HB.out))) : w.heap.size ≤ gb284)); have n4_ := Aside0.mk ((by rw [hg]; exact (below_size (by repeat (first | (with_reducible first | exact HB.out | apply below_alloc | apply pw_below_drewN | apply below_drew1 | refine below_set ?_ GE283.out) | exact HB.out))) : w.heap.size ≤ gb284)); have n5_ := Aside0.mk ((by rw [hg]; exact Nat.ne_of_lt (blk_lt (g := gb283) (o := .cells #[.slice A0_0 l0_0.length c0_0, .slice A0_1 l0_1.length c0_1] 25 (0, 0)) (by (with_reducible repeat (first | refine blk_drewN ?_ _ | refine blk_drew ?_ | refine blk_alloc ?_ _)); exact BK283.out)) : gb283 ≠ gb284)); have n6_ := Aside0.mk ((by rw [hg]; exact Nat.ne_of_gt (blk_lt (g := gb283) (o := .cells #[.slice A0_0 l0_0.length c0_0, .slice A0_1 l0_1.length c0_1] 25 (0, 0)) (by (with_reducible repeat (first | refine blk_drewN ?_ _ | refine blk_drew ?_ | refine blk_alloc ?_ _)); exact BK283.out)) : gb284 ≠ gb283)); clear BK283; clear HB; have BK283 := n0_; have HB := n1_; have BK284 := n2_; have GW284 := n3_; have GE284 := n4_; have NB283_284 := n5_; have NB284_283 := n6_; clear n0_ n1_ n2_ n3_ n4_ n5_ n6_; clear hb hbox hg; have hnb8 := NB284_283.out; have hnc8 := NB283_284.out; have hcz9_0 : w7.cell? ⟨gb284, 0, none⟩ = some (.int .i64 a1_0) := (blk_cell BK284.out 0).trans rfl; have hcz9_1 : w7.cell? ⟨gb284, 1, none⟩ = some (.int .i64 a1_1) := (blk_cell BK284.out 1).trans rfl; have hfz9_0 := blk_frozen BK284.out 0; have hfz9_1 := blk_frozen BK284.out 1; have hcz10_0 : w7.cell? ⟨gb283, 0, none⟩ = some (.slice A0_0 l0_0.length c0_0) := (blk_cell BK283.out 0).trans rfl; have hcz10_1 : w7.cell? ⟨gb283, 1, none⟩ = some (.slice A0_1 l0_1.length c0_1) := (blk_cell BK283.out 1).trans rfl; have hfz10_0 := blk_frozen BK283.out 0; have hfz10_1 := blk_frozen BK283.out 1) | (go_at_call 87; (with_reducible refine (signatoryref34_Number.calls a1_1 t285 _ A5.out).mono ?_); rintro e w' ⟨rfl, ⟨nd, rfl⟩⟩))
   go_ret
   exact ⟨by first | rfl | (simp [errW_none, errW_some] <;> rfl) | (simp [*, errW_none, errW_some] <;> rfl), by repeat (first | (with_reducible first | exact HB.out | apply below_alloc | apply pw_below_drewN | apply below_drew1 | refine below_set ?_ GE283.out | refine below_set ?_ GE284.out) | exact HB.out)⟩
  ·rw [if_neg c4] at H
   have c4b0 : decide (a1_0 < (l0_0.length : Int)) = false := decide_eq_false c4
   clear c4
   obtain rfl := Option.some.inj H
   go_enter Try.func103, Try.ntmps103
   go_wp2_with (first | ((with_reducible refine gate_dst (N := 2) rfl ?_); (try (refine gate_guard (by rfl) ?_; dsimp only)); refine box_event ?hg (N := 2) ?hd (cs := #[.slice A0_0 l0_0.length c0_0, .slice A0_1 l0_1.length c0_1]) (t := 25) ?hr ?_; (case hd => rfl); (case hg => rfl); (case hr => first | (go_simp; done) | (go_simp; rfl)); intro gb283 hg w11 hbox hb; have n0_ := Aside0.mk (below_step (by repeat (first | (with_reducible first | exact HB.out | apply below_alloc | apply pw_below_drewN | apply below_drew1) | exact HB.out)) hb); have n1_ := Aside0.mk (hbox); have n2_ := Aside0.mk ((by rw [hg]; exact (below_size (by repeat (first | (with_reducible first | exact HB.out | apply below_alloc | apply pw_below_drewN | apply below_drew1) | exact HB.out))) : w.heap.size ≤ gb283)); have n3_ := Aside0.mk ((by rw [hg]; exact (below_size (by repeat (first | (with_reducible first | exact HB.out | apply below_alloc | apply pw_below_drewN | apply below_drew1) | exact HB.out))) : w.heap.size ≤ gb283)); clear HB; have HB := n0_; have BK283 := n1_; have GW283 := n2_; have GE283 := n3_; clear n0_ n1_ n2_ n3_; clear hb hbox hg) | ((with_reducible refine gate_dst (N := 3) rfl ?_); (try (refine gate_guard (by rfl) ?_; dsimp only)); refine box_event ?hg (N := 3) ?hd (cs := #[.int .i64 a1_0, .int .i64 a1_1]) (t := 38) ?hr ?_; (case hd => rfl); (case hg => rfl); (case hr => first | (go_simp; done) | (go_simp; rfl)); intro gb284 hg w12 hbox hb; have n0_ := Aside0.mk (blk_below (g := gb283) (o := .cells #[.slice A0_0 l0_0.length c0_0, .slice A0_1 l0_1.length c0_1] 25 (0, 0)) (by (with_reducible repeat (first | refine blk_drewN ?_ _ | refine blk_drew ?_ | refine blk_alloc ?_ _)); exact BK283.out) hb); have n1_ := Aside0.mk (below_step (by repeat (first | (with_reducible first | exact HB.out | apply below_alloc | apply pw_below_drewN | apply below_drew1 | refine below_set ?_ GE283.out) | exact HB.out)) hb); have n2_ := Aside0.mk (hbox); have n3_ := Aside0.mk ((by rw [hg]; exact (below_size (by repeat (first | (with_reducible first | exact HB.out | apply below_alloc | apply pw_below_drewN | apply below_drew1 | refine below_set ?_ GE283.out) | exact HB.out))) : w.heap.size ≤ gb284)); have n4_ := Aside0.mk ((by rw [hg]; exact (below_size (by repeat (first | (with_reducible first | exact HB.out | apply below_alloc | apply pw_below_drewN | apply below_drew1 | refine below_set ?_ GE283.out) | exact HB.out))) : w.heap.size ≤ gb284)); have n5_ := Aside0.mk ((by rw [hg]; exact Nat.ne_of_lt (blk_lt (g := gb283) (o := .cells #[.slice A0_0 l0_0.length c0_0, .slice A0_1 l0_1.length c0_1] 25 (0, 0)) (by (with_reducible repeat (first | refine blk_drewN ?_ _ | refine blk_drew ?_ | refine blk_alloc ?_ _)); exact BK283.out)) : gb283 ≠ gb284)); have n6_ := Aside0.mk ((by rw [hg]; exact Nat.ne_of_gt (blk_lt (g := gb283) (o := .cells #[.slice A0_0 l0_0.length c0_0, .slice A0_1 l0_1.length c0_1] 25 (0, 0)) (by (with_reducible repeat (first | refine blk_drewN ?_ _ | refine blk_drew ?_ | refine blk_alloc ?_ _)); exact BK283.out)) : gb284 ≠ gb283)); clear BK283; clear HB; have BK283 := n0_; have HB := n1_; have BK284 := n2_; have GW284 := n3_; have GE284 := n4_; have NB283_284 := n5_; have NB284_283 := n6_; clear n0_ n1_ n2_ n3_ n4_ n5_ n6_; clear hb hbox hg; have hnb13 := NB284_283.out; have hnc13 := NB283_284.out; have hcz14_0 : w12.cell? ⟨gb284, 0, none⟩ = some (.int .i64 a1_0) := (blk_cell BK284.out 0).trans rfl; have hcz14_1 : w12.cell? ⟨gb284, 1, none⟩ = some (.int .i64 a1_1) := (blk_cell BK284.out 1).trans rfl; have hfz14_0 := blk_frozen BK284.out 0; have hfz14_1 := blk_frozen BK284.out 1; have hcz15_0 : w12.cell? ⟨gb283, 0, none⟩ = some (.slice A0_0 l0_0.length c0_0) := (blk_cell BK283.out 0).trans rfl; have hcz15_1 : w12.cell? ⟨gb283, 1, none⟩ = some (.slice A0_1 l0_1.length c0_1) := (blk_cell BK283.out 1).trans rfl; have hfz15_0 := blk_frozen BK283.out 0; have hfz15_1 := blk_frozen BK283.out 1))
   go_ret
   exact ⟨by first | rfl | (simp [errW_none, errW_some] <;> rfl) | (simp [*, errW_none, errW_some] <;> rfl), by repeat (first | (with_reducible first | exact HB.out | apply below_alloc | apply pw_below_drewN | apply below_drew1 | refine below_set ?_ GE283.out | refine below_set ?_ GE284.out) | exact HB.out)⟩
 ·rw [if_neg c3] at H
  have c3b0 : decide (0 ≤ a1_0) = false := decide_eq_false c3
  clear c3
  obtain rfl := Option.some.inj H
  go_enter Try.func103, Try.ntmps103
  go_wp2_with (first | ((with_reducible refine gate_dst (N := 2) rfl ?_); (try (refine gate_guard (by rfl) ?_; dsimp only)); refine box_event ?hg (N := 2) ?hd (cs := #[.slice A0_0 l0_0.length c0_0, .slice A0_1 l0_1.length c0_1]) (t := 25) ?hr ?_; (case hd => rfl); (case hg => rfl); (case hr => first | (go_simp; done) | (go_simp; rfl)); intro gb283 hg w16 hbox hb; have n0_ := Aside0.mk (below_step (by repeat (first | (with_reducible first | exact HB.out | apply below_alloc | apply pw_below_drewN | apply below_drew1) | exact HB.out)) hb); have n1_ := Aside0.mk (hbox); have n2_ := Aside0.mk ((by rw [hg]; exact (below_size (by repeat (first | (with_reducible first | exact HB.out | apply below_alloc | apply pw_below_drewN | apply below_drew1) | exact HB.out))) : w.heap.size ≤ gb283)); have n3_ := Aside0.mk ((by rw [hg]; exact (below_size (by repeat (first | (with_reducible first | exact HB.out | apply below_alloc | apply pw_below_drewN | apply below_drew1) | exact HB.out))) : w.heap.size ≤ gb283)); clear HB; have HB := n0_; have BK283 := n1_; have GW283 := n2_; have GE283 := n3_; clear n0_ n1_ n2_ n3_; clear hb hbox hg) | ((with_reducible refine gate_dst (N := 3) rfl ?_); (try (refine gate_guard (by rfl) ?_; dsimp only)); refine box_event ?hg (N := 3) ?hd (cs := #[.int .i64 a1_0, .int .i64 a1_1]) (t := 38) ?hr ?_; (case hd => rfl); (case hg => rfl); (case hr => first | (go_simp; done) | (go_simp; rfl)); intro gb284 hg w17 hbox hb; have n0_ := Aside0.mk (blk_below (g := gb283) (o := .cells #[.slice A0_0 l0_0.length c0_0, .slice A0_1 l0_1.length c0_1] 25 (0, 0)) (by (with_reducible repeat (first | refine blk_drewN ?_ _ | refine blk_drew ?_ | refine blk_alloc ?_ _)); exact BK283.out) hb); have n1_ := Aside0.mk (below_step (by repeat (first | (with_reducible first | exact HB.out | apply below_alloc | apply pw_below_drewN | apply below_drew1 | refine below_set ?_ GE283.out) | exact HB.out)) hb); have n2_ := Aside0.mk (hbox); have n3_ := Aside0.mk ((by rw [hg]; exact (below_size (by repeat (first | (with_reducible first | exact HB.out | apply below_alloc | apply pw_below_drewN | apply below_drew1 | refine below_set ?_ GE283.out) | exact HB.out))) : w.heap.size ≤ gb284)); have n4_ := Aside0.mk ((by rw [hg]; exact (below_size (by repeat (first | (with_reducible first | exact HB.out | apply below_alloc | apply pw_below_drewN | apply below_drew1 | refine below_set ?_ GE283.out) | exact HB.out))) : w.heap.size ≤ gb284)); have n5_ := Aside0.mk ((by rw [hg]; exact Nat.ne_of_lt (blk_lt (g := gb283) (o := .cells #[.slice A0_0 l0_0.length c0_0, .slice A0_1 l0_1.length c0_1] 25 (0, 0)) (by (with_reducible repeat (first | refine blk_drewN ?_ _ | refine blk_drew ?_ | refine blk_alloc ?_ _)); exact BK283.out)) : gb283 ≠ gb284)); have n6_ := Aside0.mk ((by rw [hg]; exact Nat.ne_of_gt (blk_lt (g := gb283) (o := .cells #[.slice A0_0 l0_0.length c0_0, .slice A0_1 l0_1.length c0_1] 25 (0, 0)) (by (with_reducible repeat (first | refine blk_drewN ?_ _ | refine blk_drew ?_ | refine blk_alloc ?_ _)); exact BK283.out)) : gb284 ≠ gb283)); clear BK283; clear HB; have BK283 := n0_; have HB := n1_; have BK284 := n2_; have GW284 := n3_; have GE284 := n4_; have NB283_284 := n5_; have NB284_283 := n6_; clear n0_ n1_ n2_ n3_ n4_ n5_ n6_; clear hb hbox hg; have hnb18 := NB284_283.out; have hnc18 := NB283_284.out; have hcz19_0 : w17.cell? ⟨gb284, 0, none⟩ = some (.int .i64 a1_0) := (blk_cell BK284.out 0).trans rfl; have hcz19_1 : w17.cell? ⟨gb284, 1, none⟩ = some (.int .i64 a1_1) := (blk_cell BK284.out 1).trans rfl; have hfz19_0 := blk_frozen BK284.out 0; have hfz19_1 := blk_frozen BK284.out 1))
  go_ret
  exact ⟨by first | rfl | (simp [errW_none, errW_some] <;> rfl) | (simp [*, errW_none, errW_some] <;> rfl), by repeat (first | (with_reducible first | exact HB.out | apply below_alloc | apply pw_below_drewN | apply below_drew1 | refine below_set ?_ GE283.out | refine below_set ?_ GE284.out) | exact HB.out)⟩
def signatoryref34_Fits.j0 : Nat → List Int → Bool → List (List Int) → List Int → Int → Int → Option (Bool × Int)
 | 0, _, _, _, _, _, _ => none
 | k + 1, x1, x23, x287000, x287001, x288000, x288001 => if x23 = true then (some (false, 340)) else ((signatoryref34_power.f k 4 x288001).bind fun t291 => ((signatoryref34_public.f k x287000 x287001 x1 x288000).bind fun t292 => (some ((t291 == t292), 0))))
def signatoryref34_Fits.f (k : Nat) (l0_0 : List (List Int)) (l0_1 : List Int) (l1 : List Int) (a2_0 : Int) (a2_1 : Int) : Option (Bool × Int) := (signatoryref23_Check.f k l0_0 l0_1).bind fun t288 => (if t288 = 0 then ((signatoryref34_Commits.f k l0_0 l0_1 l1).bind fun t289 => (if t289 = true then ((signatoryref34_share.f l0_0 l0_1 a2_0 a2_1).bind fun t290 => (signatoryref34_Fits.j0 k l1 (!t290) l0_0 l0_1 a2_0 a2_1)) else (signatoryref34_Fits.j0 k l1 true l0_0 l0_1 a2_0 a2_1))) else (some (false, t288)))
def signatoryref34_Fits.T6 : Bool × List (List Nat × List Nat) := (true, [([], []), ([0], [0]), ([1], [1]), ([], []), ([], []), ([], []), ([5], [5]), ([3, 4, 6, 2], [3, 4, 6]), ([2, 7], [2, 7]), ([8, 7, 0, 1, 2, 3, 4, 5, 6, 7, 8], [8]), ([9, 0, 1, 2, 3, 4, 5, 6, 7, 8, 9], [])])
def signatoryref34_Fits.B6 : List Nat := [0, 1, 3, 0, 0, 0, 32, 127, 255, 511, 1023]
theorem signatoryref34_Fits.tab6 : rtab .any (opsOf Try.f31 6) = signatoryref34_Fits.T6 := by kernel_rfl
theorem signatoryref34_Fits.bits6 : waitsOk signatoryref34_Fits.T6.2 signatoryref34_Fits.B6 = true := by kernel_rfl
set_option maxHeartbeats 8000000 in
set_option maxRecDepth 100000 in
theorem signatoryref34_Fits.calls (k : Nat) (A0_0 : Option Addr) (c0_0 : Nat) (l0_0 : List (List Int)) (A0_1 : Option Addr) (c0_1 : Nat) (l0_1 : List Int) (A1 : Option Addr) (c1 : Nat) (l1 : List Int) (a2_0 : Int) (a2_1 : Int) (r1 : Bool) (r2 : Int) (w : World) (hr0_0 : Kd.C (Kd.slice 3 (Kd.int .i64)) w A0_0 l0_0.length l0_0) (hc0_0 : l0_0.length ≤ c0_0) (hr0_1 : Kd.C (Kd.int .i64) w A0_1 l0_1.length l0_1) (hc0_1 : l0_1.length ≤ c0_1) (hr1 : Kd.C (Kd.int .i64) w A1 l1.length l1) (hc1 : l1.length ≤ c1) (h : signatoryref34_Fits.f k l0_0 l0_1 l1 a2_0 a2_1 = some (r1, r2)) :
  Calls Try.prog 31 #[.agg #[.slice A0_0 l0_0.length c0_0, .slice A0_1 l0_1.length c0_1], .slice A1 l1.length c1, .agg #[.int .i64 a2_0, .int .i64 a2_1]] w fun e w' => e = .returned (.tuple #[.bool r1, .int .i64 r2]) ∧ Below w.heap.size w w' := by
 have hu25 := Try.underlying25
 have hu38 := Try.underlying38
 have HR0_0 := Aside0.mk hr0_0
 have HC0_0 := Aside0.mk hc0_0
 clear hr0_0 hc0_0
 have HR0_1 := Aside0.mk hr0_1
 have HC0_1 := Aside0.mk hc0_1
 clear hr0_1 hc0_1
 have HR1 := Aside0.mk hr1
 have HC1 := Aside0.mk hc1
 clear hr1 hc1
 have HB := Aside0.mk (Below.refl w.heap.size w)
 have H : ((signatoryref23_Check.f k l0_0 l0_1).bind fun t288 => (if t288 = 0 then ((signatoryref34_Commits.f k l0_0 l0_1 l1).bind fun t289 => (if t289 = true then ((signatoryref34_share.f l0_0 l0_1 a2_0 a2_1).bind fun t290 => (signatoryref34_Fits.j0 k l1 (!t290) l0_0 l0_1 a2_0 a2_1)) else (signatoryref34_Fits.j0 k l1 true l0_0 l0_1 a2_0 a2_1))) else (some (false, t288)))) = some (r1, r2) := h
 clear h
 replace H := Option.bind_eq_some_iff.mp H
 obtain ⟨t288, A40, H⟩ := H
 replace H : (if t288 = 0 then ((signatoryref34_Commits.f k l0_0 l0_1 l1).bind fun t289 => (if t289 = true then ((signatoryref34_share.f l0_0 l0_1 a2_0 a2_1).bind fun t290 => (signatoryref34_Fits.j0 k l1 (!t290) l0_0 l0_1 a2_0 a2_1)) else (signatoryref34_Fits.j0 k l1 true l0_0 l0_1 a2_0 a2_1))) else (some (false, t288))) = some (r1, r2) := H
 have A4 := Aside0.mk A40
 clear A40
 by_cases c5 : t288 = 0
 ·rw [if_pos c5] at H
  have c5b0 : (t288 == 0) = true := beq_iff_eq.mpr c5
  have c5b1 : (t288 != 0) = false := bne_eq_false_iff_eq.mpr c5
  clear c5
  have HC6 := Aside0.mk H
  clear H
  go_enter Try.func31, Try.ntmps31
  go_upto_region 4 with (first | ((with_reducible refine gate_dst (N := 3) rfl ?_); refine box_event ?hg (N := 3) ?hd (cs := #[.slice A0_0 l0_0.length c0_0, .slice A0_1 l0_1.length c0_1]) (t := 25) ?hr ?_; (case hd => rfl); (case hg => rfl); (case hr => first | (go_simp; done) | (go_simp; rfl)); intro gb286 hg w7 hbox hb; have n0_ := Aside0.mk (below_step (by repeat (first | (with_reducible first | exact HB.out | apply below_alloc | apply pw_below_drewN | apply below_drew1) | exact HB.out)) hb); have n1_ := Aside0.mk (hbox); have n2_ := Aside0.mk ((by rw [hg]; exact (below_size (by repeat (first | (with_reducible first | exact HB.out | apply below_alloc | apply pw_below_drewN | apply below_drew1) | exact HB.out))) : w.heap.size ≤ gb286)); have n3_ := Aside0.mk ((by rw [hg]; exact (below_size (by repeat (first | (with_reducible first | exact HB.out | apply below_alloc | apply pw_below_drewN | apply below_drew1) | exact HB.out))) : w.heap.size ≤ gb286)); clear HB; have HB := n0_; have BK286 := n1_; have GW286 := n2_; have GE286 := n3_; clear n0_ n1_ n2_ n3_; clear hb hbox hg) | ((with_reducible refine gate_dst (N := 5) rfl ?_); refine box_event ?hg (N := 5) ?hd (cs := #[.int .i64 a2_0, .int .i64 a2_1]) (t := 38) ?hr ?_; (case hd => rfl); (case hg => rfl); (case hr => first | (go_simp; done) | (go_simp; rfl)); intro gb287 hg w8 hbox hb; have n0_ := Aside0.mk (blk_below (g := gb286) (o := .cells #[.slice A0_0 l0_0.length c0_0, .slice A0_1 l0_1.length c0_1] 25 (0, 0)) (by (with_reducible repeat (first | refine blk_drewN ?_ _ | refine blk_drew ?_ | refine blk_alloc ?_ _)); exact BK286.out) hb); have n1_ := Aside0.mk (below_step (by repeat (first | (with_reducible first | exact HB.out | apply below_alloc | apply pw_below_drewN | apply below_drew1 | refine below_set ?_ GE286.out) | exact HB.out)) hb); have n2_ := Aside0.mk (hbox); have n3_ := Aside0.mk ((by rw [hg]; exact (below_size (by repeat (first | (with_reducible first | exact HB.out | apply below_alloc | apply pw_below_drewN | apply below_drew1 | refine below_set ?_ GE286.out) | exact HB.out))) : w.heap.size ≤ gb287)); have n4_ := Aside0.mk ((by rw [hg]; exact (below_size (by repeat (first | (with_reducible first | exact HB.out | apply below_alloc | apply pw_below_drewN | apply below_drew1 | refine below_set ?_ GE286.out) | exact HB.out))) : w.heap.size ≤ gb287)); have n5_ := Aside0.mk ((by rw [hg]; exact Nat.ne_of_lt (blk_lt (g := gb286) (o := .cells #[.slice A0_0 l0_0.length c0_0, .slice A0_1 l0_1.length c0_1] 25 (0, 0)) (by (with_reducible repeat (first | refine blk_drewN ?_ _ | refine blk_drew ?_ | refine blk_alloc ?_ _)); exact BK286.out)) : gb286 ≠ gb287)); have n6_ := Aside0.mk ((by rw [hg]; exact Nat.ne_of_gt (blk_lt (g := gb286) (o := .cells #[.slice A0_0 l0_0.length c0_0, .slice A0_1 l0_1.length c0_1] 25 (0, 0)) (by (with_reducible repeat (first | refine blk_drewN ?_ _ | refine blk_drew ?_ | refine blk_alloc ?_ _)); exact BK286.out)) : gb287 ≠ gb286)); clear BK286; clear HB; have BK286 := n0_; have HB := n1_; have BK287 := n2_; have GW287 := n3_; have GE287 := n4_; have NB286_287 := n5_; have NB287_286 := n6_; clear n0_ n1_ n2_ n3_ n4_ n5_ n6_; clear hb hbox hg; have hnb9 := NB286_287.out; have hnc9 := NB287_286.out; have hcz10_0 : w8.cell? ⟨gb286, 0, none⟩ = some (.slice A0_0 l0_0.length c0_0) := (blk_cell BK286.out 0).trans rfl; have hcz10_1 : w8.cell? ⟨gb286, 1, none⟩ = some (.slice A0_1 l0_1.length c0_1) := (blk_cell BK286.out 1).trans rfl; have hfz10_0 := blk_frozen BK286.out 0; have hfz10_1 := blk_frozen BK286.out 1) | ((with_reducible refine gate_callee (f := 58) rfl ?_); refine goesL_ (some 10) rfl rfl Try.func58 (by kernel_rfl) rfl #[.agg #[.slice A0_0 l0_0.length c0_0, .slice A0_1 l0_1.length c0_1]] rfl (by (try simp only [List.map_toArray, List.map_cons, List.map_nil]); first | done | rfl | (simp only [List.length_drop, List.length_take]; rfl)) ?_; (with_reducible refine (signatoryref23_Check.calls k _ _ l0_0 _ _ l0_1 t288 _ ?side1 ?side2 ?side3 ?side4 A4.out).mono ?_); (case side1 => repeat (first | exact (Kd.C_below HR0_0.out HB.out) | (with_reducible refine Kd.C_alloc ?_ _) | (with_reducible refine Kd.C_drewN ?_ _) | (with_reducible refine Kd.C_drew ?_))); (case side2 => exact HC0_0.out); (case side3 => repeat (first | exact (Kd.C_below HR0_1.out HB.out) | (with_reducible refine Kd.C_alloc ?_ _) | (with_reducible refine Kd.C_drewN ?_ _) | (with_reducible refine Kd.C_drew ?_))); (case side4 => exact HC0_1.out); rintro e w11 ⟨rfl, hb⟩; refine ⟨_, rfl, ?_⟩; have n0_ := Aside0.mk (blk_below (g := gb286) (o := .cells #[.slice A0_0 l0_0.length c0_0, .slice A0_1 l0_1.length c0_1] 25 (0, 0)) (by (with_reducible repeat (first | refine blk_drewN ?_ _ | refine blk_drew ?_ | refine blk_alloc ?_ _)); exact BK286.out) hb); have n1_ := Aside0.mk (blk_below (g := gb287) (o := .cells #[.int .i64 a2_0, .int .i64 a2_1] 38 (0, 0)) (by (with_reducible repeat (first | refine blk_drewN ?_ _ | refine blk_drew ?_ | refine blk_alloc ?_ _)); exact BK287.out) hb); have n2_ := Aside0.mk (below_step (by repeat (first | (with_reducible first | exact HB.out | apply below_alloc | apply pw_below_drewN | apply below_drew1 | refine below_set ?_ GE286.out | refine below_set ?_ GE287.out) | exact HB.out)) hb); clear BK286; clear BK287; clear HB; have BK286 := n0_; have BK287 := n1_; have HB := n2_; clear n0_ n1_ n2_; (try clear hb); (try clear hb2); (try clear hk); (try clear hi)))
  (try simp only [Act.put, List.setIfInBounds_toArray, List.set_cons_zero, List.set_cons_succ])
  go_cut [23] (fun v23 wc => ∃ (kq : Nat) (x23_5 : Bool), v23 = .bool x23_5 ∧ Aside0 (signatoryref34_Fits.j0 kq l1 x23_5 l0_0 l0_1 a2_0 a2_1 = some (r1, r2)) ∧ Aside0 (kq ≤ k) ∧ Aside0 (wc.heap[gb286]? = some (.cells #[(.slice A0_0 l0_0.length c0_0), (.slice A0_1 l0_1.length c0_1)] 25 (0, 0))) ∧ Aside0 (wc.heap[gb287]? = some (.cells #[.int .i64 a2_0, .int .i64 a2_1] 38 (0, 0))) ∧ Aside0 (Below w.heap.size w wc))
  case first =>
   have H := HC6.out
   clear HC6
   replace H := Option.bind_eq_some_iff.mp H
   obtain ⟨t289, A120, H⟩ := H
   replace H : (if t289 = true then ((signatoryref34_share.f l0_0 l0_1 a2_0 a2_1).bind fun t290 => (signatoryref34_Fits.j0 k l1 (!t290) l0_0 l0_1 a2_0 a2_1)) else (signatoryref34_Fits.j0 k l1 true l0_0 l0_1 a2_0 a2_1)) = some (r1, r2) := H
   have A12 := Aside0.mk A120
   clear A120
   by_cases c13 : t289 = true
   ·subst c13
    have H1 : ((signatoryref34_share.f l0_0 l0_1 a2_0 a2_1).bind fun t290 => (signatoryref34_Fits.j0 k l1 (!t290) l0_0 l0_1 a2_0 a2_1)) = some (r1, r2) := by rw [if_pos rfl] at H; exact H
    clear H
    have H := H1
    clear H1
    replace H := Option.bind_eq_some_iff.mp H
    obtain ⟨t290, A140, H⟩ := H
    replace H : (signatoryref34_Fits.j0 k l1 (!t290) l0_0 l0_1 a2_0 a2_1) = some (r1, r2) := H
    have A14 := Aside0.mk A140
    clear A140
    have H' := Aside0.mk H
    clear H
    have hnb15 := NB286_287.out
    have hnc15 := NB287_286.out
    have hcz16_0 : w11.cell? ⟨gb286, 0, none⟩ = some (.slice A0_0 l0_0.length c0_0) := (blk_cell BK286.out 0).trans rfl
    have hcz16_1 : w11.cell? ⟨gb286, 1, none⟩ = some (.slice A0_1 l0_1.length c0_1) := (blk_cell BK286.out 1).trans rfl
    have hfz16_0 := blk_frozen BK286.out 0
    have hfz16_1 := blk_frozen BK286.out 1
    go_wp2_with (first | ((with_reducible refine gate_callee (f := 101) rfl ?_); refine goesL_ (some 16) rfl rfl Try.func101 (by kernel_rfl) rfl #[.agg #[.slice A0_0 l0_0.length c0_0, .slice A0_1 l0_1.length c0_1], .slice A1 l1.length c1] rfl (by (try simp only [List.map_toArray, List.map_cons, List.map_nil]); first | done | rfl | (simp only [List.length_drop, List.length_take]; rfl)) ?_; (with_reducible refine (signatoryref34_Commits.calls k _ _ l0_0 _ _ l0_1 _ _ l1 true _ ?side1 ?side2 ?side3 ?side4 ?side5 ?side6 A12.out).mono ?_); (case side1 => repeat (first | exact (Kd.C_below HR0_0.out HB.out) | (with_reducible refine Kd.C_alloc ?_ _) | (with_reducible refine Kd.C_drewN ?_ _) | (with_reducible refine Kd.C_drew ?_))); (case side2 => exact HC0_0.out); (case side3 => repeat (first | exact (Kd.C_below HR0_1.out HB.out) | (with_reducible refine Kd.C_alloc ?_ _) | (with_reducible refine Kd.C_drewN ?_ _) | (with_reducible refine Kd.C_drew ?_))); (case side4 => exact HC0_1.out); (case side5 => repeat (first | exact (Kd.C_below HR1.out HB.out) | (with_reducible refine Kd.C_alloc ?_ _) | (with_reducible refine Kd.C_drewN ?_ _) | (with_reducible refine Kd.C_drew ?_))); (case side6 => exact HC1.out); rintro e w17 ⟨rfl, hb⟩; refine ⟨_, rfl, ?_⟩; have n0_ := Aside0.mk (blk_below (g := gb286) (o := .cells #[.slice A0_0 l0_0.length c0_0, .slice A0_1 l0_1.length c0_1] 25 (0, 0)) (by (with_reducible repeat (first | refine blk_drewN ?_ _ | refine blk_drew ?_ | refine blk_alloc ?_ _)); exact BK286.out) hb); have n1_ := Aside0.mk (blk_below (g := gb287) (o := .cells #[.int .i64 a2_0, .int .i64 a2_1] 38 (0, 0)) (by (with_reducible repeat (first | refine blk_drewN ?_ _ | refine blk_drew ?_ | refine blk_alloc ?_ _)); exact BK287.out) hb); have n2_ := Aside0.mk (below_step (by repeat (first | (with_reducible first | exact HB.out | apply below_alloc | apply pw_below_drewN | apply below_drew1 | refine below_set ?_ GE286.out | refine below_set ?_ GE287.out) | exact HB.out)) hb); clear BK286; clear BK287; clear HB; have BK286 := n0_; have BK287 := n1_; have HB := n2_; clear n0_ n1_ n2_; (try clear hb); (try clear hb2); (try clear hk); (try clear hi); have hcz18_0 : w17.cell? ⟨gb286, 0, none⟩ = some (.slice A0_0 l0_0.length c0_0) := (blk_cell BK286.out 0).trans rfl; have hcz18_1 : w17.cell? ⟨gb286, 1, none⟩ = some (.slice A0_1 l0_1.length c0_1) := (blk_cell BK286.out 1).trans rfl; have hfz18_0 := blk_frozen BK286.out 0; have hfz18_1 := blk_frozen BK286.out 1; have hcz19_0 : w17.cell? ⟨gb287, 0, none⟩ = some (.int .i64 a2_0) := (blk_cell BK287.out 0).trans rfl; have hcz19_1 : w17.cell? ⟨gb287, 1, none⟩ = some (.int .i64 a2_1) := (blk_cell BK287.out 1).trans rfl; have hfz19_0 := blk_frozen BK287.out 0; have hfz19_1 := blk_frozen BK287.out 1) | (go_at_call 103; (with_reducible refine (signatoryref34_share.calls _ _ l0_0 _ _ l0_1 a2_0 a2_1 t290 _ ?side1 ?side2 ?side3 ?side4 A14.out).mono ?_); (case side1 => repeat (first | exact (Kd.C_below HR0_0.out HB.out) | (with_reducible refine Kd.C_alloc ?_ _) | (with_reducible refine Kd.C_drewN ?_ _) | (with_reducible refine Kd.C_drew ?_))); (case side2 => exact HC0_0.out); (case side3 => repeat (first | exact (Kd.C_below HR0_1.out HB.out) | (with_reducible refine Kd.C_alloc ?_ _) | (with_reducible refine Kd.C_drewN ?_ _) | (with_reducible refine Kd.C_drew ?_))); (case side4 => exact HC0_1.out); rintro e w20 ⟨rfl, hb⟩; have n0_ := Aside0.mk (blk_below (g := gb286) (o := .cells #[.slice A0_0 l0_0.length c0_0, .slice A0_1 l0_1.length c0_1] 25 (0, 0)) (by (with_reducible repeat (first | refine blk_drewN ?_ _ | refine blk_drew ?_ | refine blk_alloc ?_ _)); exact BK286.out) hb); have n1_ := Aside0.mk (blk_below (g := gb287) (o := .cells #[.int .i64 a2_0, .int .i64 a2_1] 38 (0, 0)) (by (with_reducible repeat (first | refine blk_drewN ?_ _ | refine blk_drew ?_ | refine blk_alloc ?_ _)); exact BK287.out) hb); have n2_ := Aside0.mk (below_step (by repeat (first | (with_reducible first | exact HB.out | apply below_alloc | apply pw_below_drewN | apply below_drew1 | refine below_set ?_ GE286.out | refine below_set ?_ GE287.out) | exact HB.out)) hb); clear BK286; clear BK287; clear HB; have BK286 := n0_; have BK287 := n1_; have HB := n2_; clear n0_ n1_ n2_; (try clear hb); (try clear hb2); (try clear hk); (try clear hi)))
    go_meet
    case rel => exact ⟨_, (!t290), (by first | rfl | (simp; done) | (simp [*]; done)), H', ⟨by first | omega | exact Nat.le_refl _⟩, ⟨by (with_reducible repeat (first | refine blk_drewN ?_ _ | refine blk_drew ?_ | refine blk_alloc ?_ _)); exact BK286.out⟩, ⟨by (with_reducible repeat (first | refine blk_drewN ?_ _ | refine blk_drew ?_ | refine blk_alloc ?_ _)); exact BK287.out⟩, ⟨by repeat (first | (with_reducible first | exact HB.out | apply below_alloc | apply pw_below_drewN | apply below_drew1 | refine below_set ?_ GE286.out | refine below_set ?_ GE287.out) | exact HB.out)⟩⟩
   ·replace c13 := Bool.eq_false_iff.mpr c13
    subst c13
    have H1 : (signatoryref34_Fits.j0 k l1 true l0_0 l0_1 a2_0 a2_1) = some (r1, r2) := by rw [if_neg (show ¬ (false = true) by decide)] at H; exact H
    clear H
    have H := H1
    clear H1
    have H' := Aside0.mk H
    clear H
    have hnb21 := NB286_287.out
    have hnc21 := NB287_286.out
    have hcz22_0 : w11.cell? ⟨gb286, 0, none⟩ = some (.slice A0_0 l0_0.length c0_0) := (blk_cell BK286.out 0).trans rfl
    have hcz22_1 : w11.cell? ⟨gb286, 1, none⟩ = some (.slice A0_1 l0_1.length c0_1) := (blk_cell BK286.out 1).trans rfl
    have hfz22_0 := blk_frozen BK286.out 0
    have hfz22_1 := blk_frozen BK286.out 1
    go_wp2_with (first | ((with_reducible refine gate_callee (f := 101) rfl ?_); refine goesL_ (some 16) rfl rfl Try.func101 (by kernel_rfl) rfl #[.agg #[.slice A0_0 l0_0.length c0_0, .slice A0_1 l0_1.length c0_1], .slice A1 l1.length c1] rfl (by (try simp only [List.map_toArray, List.map_cons, List.map_nil]); first | done | rfl | (simp only [List.length_drop, List.length_take]; rfl)) ?_; (with_reducible refine (signatoryref34_Commits.calls k _ _ l0_0 _ _ l0_1 _ _ l1 false _ ?side1 ?side2 ?side3 ?side4 ?side5 ?side6 A12.out).mono ?_); (case side1 => repeat (first | exact (Kd.C_below HR0_0.out HB.out) | (with_reducible refine Kd.C_alloc ?_ _) | (with_reducible refine Kd.C_drewN ?_ _) | (with_reducible refine Kd.C_drew ?_))); (case side2 => exact HC0_0.out); (case side3 => repeat (first | exact (Kd.C_below HR0_1.out HB.out) | (with_reducible refine Kd.C_alloc ?_ _) | (with_reducible refine Kd.C_drewN ?_ _) | (with_reducible refine Kd.C_drew ?_))); (case side4 => exact HC0_1.out); (case side5 => repeat (first | exact (Kd.C_below HR1.out HB.out) | (with_reducible refine Kd.C_alloc ?_ _) | (with_reducible refine Kd.C_drewN ?_ _) | (with_reducible refine Kd.C_drew ?_))); (case side6 => exact HC1.out); rintro e w23 ⟨rfl, hb⟩; refine ⟨_, rfl, ?_⟩; have n0_ := Aside0.mk (blk_below (g := gb286) (o := .cells #[.slice A0_0 l0_0.length c0_0, .slice A0_1 l0_1.length c0_1] 25 (0, 0)) (by (with_reducible repeat (first | refine blk_drewN ?_ _ | refine blk_drew ?_ | refine blk_alloc ?_ _)); exact BK286.out) hb); have n1_ := Aside0.mk (blk_below (g := gb287) (o := .cells #[.int .i64 a2_0, .int .i64 a2_1] 38 (0, 0)) (by (with_reducible repeat (first | refine blk_drewN ?_ _ | refine blk_drew ?_ | refine blk_alloc ?_ _)); exact BK287.out) hb); have n2_ := Aside0.mk (below_step (by repeat (first | (with_reducible first | exact HB.out | apply below_alloc | apply pw_below_drewN | apply below_drew1 | refine below_set ?_ GE286.out | refine below_set ?_ GE287.out) | exact HB.out)) hb); clear BK286; clear BK287; clear HB; have BK286 := n0_; have BK287 := n1_; have HB := n2_; clear n0_ n1_ n2_; (try clear hb); (try clear hb2); (try clear hk); (try clear hi)))
    go_meet
    case rel => exact ⟨_, (true), (by first | rfl | (simp; done) | (simp [*]; done)), H', ⟨by first | omega | exact Nat.le_refl _⟩, ⟨by (with_reducible repeat (first | refine blk_drewN ?_ _ | refine blk_drew ?_ | refine blk_alloc ?_ _)); exact BK286.out⟩, ⟨by (with_reducible repeat (first | refine blk_drewN ?_ _ | refine blk_drew ?_ | refine blk_alloc ?_ _)); exact BK287.out⟩, ⟨by repeat (first | (with_reducible first | exact HB.out | apply below_alloc | apply pw_below_drewN | apply below_drew1 | refine below_set ?_ GE286.out | refine below_set ?_ GE287.out) | exact HB.out)⟩⟩
  case rest =>
   clear HC6
   try clear c1
   try clear c2
   try clear p2
   try clear c3
   try clear c5
   try clear c5b0
   try clear c5b1
   try clear c9
   try clear c10
   try clear c13
   try clear c15
   try clear c21
   try clear hcz10_0
   try clear hcz10_1
   try clear hcz16_0
   try clear hcz16_1
   try clear hcz18_0
   try clear hcz18_1
   try clear hcz19_0
   try clear hcz19_1
   try clear hcz22_0
   try clear hcz22_1
   try clear hfz10_0
   try clear hfz10_1
   try clear hfz16_0
   try clear hfz16_1
   try clear hfz18_0
   try clear hfz18_1
   try clear hfz19_0
   try clear hfz19_1
   try clear hfz22_0
   try clear hfz22_1
   obtain ⟨kq, x23_5, rfl, HA, HJ5, BK286, BK287, HB⟩ := hcut
   cases kq with
   | zero => exact absurd HA.out (by simp [signatoryref34_Fits.j0])
   | succ kj5 =>
    have H := HA.out
    clear HA
    simp only [signatoryref34_Fits.j0] at H
    by_cases c24 : x23_5 = true
    ·subst c24
     have H1 : (some (false, 340)) = some (r1, r2) := by rw [if_pos rfl] at H; exact H
     clear H
     have H := H1
     clear H1
     simp only [Option.some.injEq, Prod.mk.injEq] at H
     obtain ⟨rfl, rfl⟩ := H
     go_wp2
     go_ret2
     exact ⟨by first | rfl | (simp [errW_none, errW_some] <;> rfl) | (simp [*, errW_none, errW_some] <;> rfl), by repeat (first | (with_reducible first | exact HB.out | apply below_alloc | apply pw_below_drewN | apply below_drew1 | refine below_set ?_ GE286.out | refine below_set ?_ GE287.out) | exact HB.out)⟩
    ·replace c24 := Bool.eq_false_iff.mpr c24
     subst c24
     have H1 : ((signatoryref34_power.f kj5 4 a2_1).bind fun t291 => ((signatoryref34_public.f kj5 l0_0 l0_1 l1 a2_0).bind fun t292 => (some ((t291 == t292), 0)))) = some (r1, r2) := by rw [if_neg (show ¬ (false = true) by decide)] at H; exact H
     clear H
     have H := H1
     clear H1
     replace H := Option.bind_eq_some_iff.mp H
     obtain ⟨t291, A250, H⟩ := H
     replace H : ((signatoryref34_public.f kj5 l0_0 l0_1 l1 a2_0).bind fun t292 => (some ((t291 == t292), 0))) = some (r1, r2) := H
     have A25 := Aside0.mk A250
     clear A250
     replace H := Option.bind_eq_some_iff.mp H
     obtain ⟨t292, A260, H⟩ := H
     replace H : (some ((t291 == t292), 0)) = some (r1, r2) := H
     have A26 := Aside0.mk A260
     clear A260
     simp only [Option.some.injEq, Prod.mk.injEq] at H
     obtain ⟨rfl, rfl⟩ := H
     try go_wp2
     have n0_ := Aside0.mk (blk_drew BK286.out)
     have n1_ := Aside0.mk (blk_drew BK287.out)
     have n2_ := Aside0.mk (below_drew1 HB.out)
     clear BK286
     clear BK287
     clear HB
     have BK286 := n0_
     have BK287 := n1_
     have HB := n2_
     clear n0_ n1_ n2_
     refine start_ (n := 11) (S := fun w' => w'.cell? ⟨gb287, 0, none⟩ = some (.int .i64 a2_0) ∧ w'.cell? ⟨gb287, 1, none⟩ = some (.int .i64 a2_1) ∧ w'.cell? ⟨gb286, 0, none⟩ = some (.slice A0_0 l0_0.length c0_0) ∧ w'.cell? ⟨gb286, 1, none⟩ = some (.slice A0_1 l0_1.length c0_1)) (ds := []) #[false, false, false, false, false, false, false, false, false, false, false] (by kernel_rfl) rfl rfl ⟨(blk_cell BK287.out 0).trans rfl, (blk_cell BK287.out 1).trans rfl, (blk_cell BK286.out 0).trans rfl, (blk_cell BK286.out 1).trans rfl⟩ (fun hHeld => ?_); refine with_tabW signatoryref34_Fits.tab6 signatoryref34_Fits.bits6 (fun HT_ HW_ => ?_)
     generalize wc.drew = w27 at BK286 BK287 HB hHeld ⊢
     refine pure_ (i := 0) (N := some 24) (v := ?_) (a' := ?_) #[true, false, false, false, false, false, false, false, false, false, false] rfl rfl (any_of HT_.out (by kernel_rfl)) (fun _ _ _ h => h) (Or.inl ⟨by rfl, ?_⟩) ?_ ?_
     rotate_left
     ·intro w'
      go_simp
      with_reducible rfl
     rotate_left
     ·simp only [Act.put, List.setIfInBounds_toArray, List.set_cons_zero, List.set_cons_succ, i64_w, i32_w]
      rfl
     refine pure_ (i := 4) (N := some 28) (v := ?_) (a' := ?_) #[true, false, false, false, true, false, false, false, false, false, false] rfl rfl (any_of HT_.out (by kernel_rfl)) (fun _ _ _ h => h) (Or.inl ⟨by rfl, ?_⟩) ?_ ?_
     rotate_left
     ·intro w'
      go_simp
      with_reducible rfl
     rotate_left
     ·simp only [Act.put, List.setIfInBounds_toArray, List.set_cons_zero, List.set_cons_succ, i64_w, i32_w]
      rfl
     refine pure_ (i := 5) (N := some 29) (v := ?_) (a' := ?_) #[true, false, false, false, true, true, false, false, false, false, false] rfl rfl (any_of HT_.out (by kernel_rfl)) (fun _ _ _ h => h) (Or.inl ⟨by rfl, ?_⟩) ?_ ?_
     rotate_left
     ·intro w'
      go_simp
      with_reducible rfl
     rotate_left
     ·simp only [Act.put, List.setIfInBounds_toArray, List.set_cons_zero, List.set_cons_succ, i64_w, i32_w]
      rfl
     refine take_ (i := 1) (N := some 25) (v := ?_) (a' := ?_) #[true, true, false, false, true, true, false, false, false, false, false] rfl rfl (take_ofW HT_.out HW_.out (by kernel_rfl)) (fun _ _ _ h => h) (Or.inl ⟨by rfl, ?_⟩) hHeld ?_ ?_
     rotate_left
     ·rintro w' ⟨s0, s1, s2, s3⟩
      go_simp
      with_reducible rfl
     rotate_left
     ·simp only [Act.put, List.setIfInBounds_toArray, List.set_cons_zero, List.set_cons_succ, i64_w, i32_w]
      rfl
     refine take_ (i := 3) (N := some 27) (v := ?_) (a' := ?_) #[true, true, false, true, true, true, false, false, false, false, false] rfl rfl (take_ofW HT_.out HW_.out (by kernel_rfl)) (fun _ _ _ h => h) (Or.inl ⟨by rfl, ?_⟩) hHeld ?_ ?_
     rotate_left
     ·rintro w' ⟨s0, s1, s2, s3⟩
      go_simp
      with_reducible rfl
     rotate_left
     ·simp only [Act.put, List.setIfInBounds_toArray, List.set_cons_zero, List.set_cons_succ, i64_w, i32_w]
      rfl
     refine take_ (i := 6) (N := some 30) (v := ?_) (a' := ?_) #[true, true, false, true, true, true, true, false, false, false, false] rfl rfl (take_ofW HT_.out HW_.out (by kernel_rfl)) (fun _ _ _ h => h) (Or.inl ⟨by rfl, ?_⟩) hHeld ?_ ?_
     rotate_left
     ·rintro w' ⟨s0, s1, s2, s3⟩
      go_simp
      with_reducible rfl
     rotate_left
     ·simp only [Act.put, List.setIfInBounds_toArray, List.set_cons_zero, List.set_cons_succ, i64_w, i32_w]
      rfl
     refine one_ (i := 2) (N := some 26) #[true, true, true, true, true, true, true, false, false, false, false] rfl rfl (one_of HT_.out (by kernel_rfl)) (by decide) (fun K hK => ?_)
     refine goes_ Try.func90 (by kernel_rfl) rfl #[.int .i64 4, .int .i64 a2_1] (by rfl) rfl rfl (by (try simp only [List.map_toArray, List.map_cons, List.map_nil]); first | done | rfl | (simp only [List.length_drop, List.length_take]; rfl)) ?_
     with_reducible refine (signatoryref34_power.calls kj5 4 a2_1 t291 _ A25.out).mono ?_
     rintro e w' ⟨rfl, ⟨nd, rfl⟩⟩
     refine ⟨_, rfl, ?_⟩
     refine hK.out _ _ ⟨(blk_cell BK287.out 0).trans rfl, (blk_cell BK287.out 1).trans rfl, (blk_cell BK286.out 0).trans rfl, (blk_cell BK286.out 1).trans rfl⟩ (fun hHeld => ?_)
     clear hK K
     refine norm_ (a' := ?_) ?_ ?_
     rotate_left
     ·show Act.put _ (some 26) _ = _
      simp only [Act.put, List.setIfInBounds_toArray, List.set_cons_zero, List.set_cons_succ, i64_w, i32_w]
      rfl
     refine one_ (i := 7) (N := some 31) #[true, true, true, true, true, true, true, true, false, false, false] rfl rfl (one_of HT_.out (by kernel_rfl)) (by decide) (fun K hK => ?_)
     refine goes_ Try.func102 (by kernel_rfl) rfl #[.agg #[.slice A0_0 l0_0.length c0_0, .slice A0_1 l0_1.length c0_1], .slice A1 l1.length c1, .int .i64 a2_0] (by rfl) rfl rfl (by (try simp only [List.map_toArray, List.map_cons, List.map_nil]); first | done | rfl | (simp only [List.length_drop, List.length_take]; rfl)) ?_
     with_reducible refine (signatoryref34_public.calls kj5 _ _ l0_0 _ _ l0_1 _ _ l1 a2_0 t292 _ ?side1 ?side2 ?side3 ?side4 ?side5 ?side6 A26.out).mono ?_
     (case side1 => repeat (first | exact (Kd.C_below HR0_0.out (by repeat (first | (with_reducible first | exact HB.out | apply below_alloc | apply pw_below_drewN | apply below_drew1 | refine below_set ?_ GE286.out | refine below_set ?_ GE287.out) | exact HB.out))) | (with_reducible refine Kd.C_alloc ?_ _) | (with_reducible refine Kd.C_drewN ?_ _) | (with_reducible refine Kd.C_drew ?_)))
     (case side2 => exact HC0_0.out)
     (case side3 => repeat (first | exact (Kd.C_below HR0_1.out (by repeat (first | (with_reducible first | exact HB.out | apply below_alloc | apply pw_below_drewN | apply below_drew1 | refine below_set ?_ GE286.out | refine below_set ?_ GE287.out) | exact HB.out))) | (with_reducible refine Kd.C_alloc ?_ _) | (with_reducible refine Kd.C_drewN ?_ _) | (with_reducible refine Kd.C_drew ?_)))
     (case side4 => exact HC0_1.out)
     (case side5 => repeat (first | exact (Kd.C_below HR1.out (by repeat (first | (with_reducible first | exact HB.out | apply below_alloc | apply pw_below_drewN | apply below_drew1 | refine below_set ?_ GE286.out | refine below_set ?_ GE287.out) | exact HB.out))) | (with_reducible refine Kd.C_alloc ?_ _) | (with_reducible refine Kd.C_drewN ?_ _) | (with_reducible refine Kd.C_drew ?_)))
     (case side6 => exact HC1.out)
     rintro e w28 ⟨rfl, hb⟩
     refine ⟨_, rfl, ?_⟩
     have n0_ := Aside0.mk (blk_below (g := gb286) (o := .cells #[.slice A0_0 l0_0.length c0_0, .slice A0_1 l0_1.length c0_1] 25 (0, 0)) (by (with_reducible repeat (first | refine blk_drewN ?_ _ | refine blk_drew ?_ | refine blk_alloc ?_ _)); exact BK286.out) hb)
     have n1_ := Aside0.mk (blk_below (g := gb287) (o := .cells #[.int .i64 a2_0, .int .i64 a2_1] 38 (0, 0)) (by (with_reducible repeat (first | refine blk_drewN ?_ _ | refine blk_drew ?_ | refine blk_alloc ?_ _)); exact BK287.out) hb)
     have n2_ := Aside0.mk (below_step (by repeat (first | (with_reducible first | exact HB.out | apply below_alloc | apply pw_below_drewN | apply below_drew1 | refine below_set ?_ GE286.out | refine below_set ?_ GE287.out) | exact HB.out)) hb)
     clear BK286
     clear BK287
     clear HB
     have BK286 := n0_
     have BK287 := n1_
     have HB := n2_
     clear n0_ n1_ n2_
     (try clear hb)
     (try clear hb2)
     (try clear hk)
     (try clear hi)
     refine hK.out _ _ ⟨(blk_cell BK287.out 0).trans rfl, (blk_cell BK287.out 1).trans rfl, (blk_cell BK286.out 0).trans rfl, (blk_cell BK286.out 1).trans rfl⟩ (fun hHeld => ?_)
     clear hK K
     refine norm_ (a' := ?_) ?_ ?_
     rotate_left
     ·show Act.put _ (some 31) _ = _
      simp only [Act.put, List.setIfInBounds_toArray, List.set_cons_zero, List.set_cons_succ, i64_w, i32_w]
      rfl
     refine pure_ (i := 8) (N := some 32) (v := ?_) (a' := ?_) #[true, true, true, true, true, true, true, true, true, false, false] rfl rfl (any_of HT_.out (by kernel_rfl)) (fun _ _ _ h => h) (Or.inl ⟨by rfl, ?_⟩) ?_ ?_
     rotate_left
     ·intro w'
      go_simp
      with_reducible rfl
     rotate_left
     ·simp only [Act.put, List.setIfInBounds_toArray, List.set_cons_zero, List.set_cons_succ, i64_w, i32_w]
      rfl
     refine pure_ (i := 9) (N := some 6) (v := ?_) (a' := ?_) #[true, true, true, true, true, true, true, true, true, true, false] rfl rfl (any_of HT_.out (by kernel_rfl)) (fun _ _ _ h => h) (Or.inl ⟨by rfl, ?_⟩) ?_ ?_
     rotate_left
     ·intro w'
      go_simp
      with_reducible rfl
     rotate_left
     ·simp only [Act.put, List.setIfInBounds_toArray, List.set_cons_zero, List.set_cons_succ, i64_w, i32_w]
      rfl
     refine pure_ (i := 10) (N := some 7) (v := ?_) (a' := ?_) #[true, true, true, true, true, true, true, true, true, true, true] rfl rfl (any_of HT_.out (by kernel_rfl)) (fun _ _ _ h => h) (Or.inl ⟨by rfl, ?_⟩) ?_ ?_
     rotate_left
     ·intro w'
      go_simp
      with_reducible rfl
     rotate_left
     ·simp only [Act.put, List.setIfInBounds_toArray, List.set_cons_zero, List.set_cons_succ, i64_w, i32_w]
      rfl
     refine done_ (done_of HT_.out (by kernel_rfl)) ?_
     try go_wp2
     go_ret2
     exact ⟨by first | rfl | (simp [errW_none, errW_some] <;> rfl) | (simp [*, errW_none, errW_some] <;> rfl), by repeat (first | (with_reducible first | exact HB.out | apply below_alloc | apply pw_below_drewN | apply below_drew1 | refine below_set ?_ GE286.out | refine below_set ?_ GE287.out) | exact HB.out)⟩
 ·rw [if_neg c5] at H
  have c5b0 : (t288 == 0) = false := beq_eq_false_iff_ne.mpr c5
  have c5b1 : (t288 != 0) = true := bne_iff_ne.mpr c5
  simp only [Option.some.injEq, Prod.mk.injEq] at H
  obtain ⟨rfl, rfl⟩ := H
  go_enter Try.func31, Try.ntmps31
  go_wp2_with (first | ((with_reducible refine gate_dst (N := 3) rfl ?_); refine box_event ?hg (N := 3) ?hd (cs := #[.slice A0_0 l0_0.length c0_0, .slice A0_1 l0_1.length c0_1]) (t := 25) ?hr ?_; (case hd => rfl); (case hg => rfl); (case hr => first | (go_simp; done) | (go_simp; rfl)); intro gb286 hg w29 hbox hb; have n0_ := Aside0.mk (below_step (by repeat (first | (with_reducible first | exact HB.out | apply below_alloc | apply pw_below_drewN | apply below_drew1) | exact HB.out)) hb); have n1_ := Aside0.mk (hbox); have n2_ := Aside0.mk ((by rw [hg]; exact (below_size (by repeat (first | (with_reducible first | exact HB.out | apply below_alloc | apply pw_below_drewN | apply below_drew1) | exact HB.out))) : w.heap.size ≤ gb286)); have n3_ := Aside0.mk ((by rw [hg]; exact (below_size (by repeat (first | (with_reducible first | exact HB.out | apply below_alloc | apply pw_below_drewN | apply below_drew1) | exact HB.out))) : w.heap.size ≤ gb286)); clear HB; have HB := n0_; have BK286 := n1_; have GW286 := n2_; have GE286 := n3_; clear n0_ n1_ n2_ n3_; clear hb hbox hg) | ((with_reducible refine gate_dst (N := 5) rfl ?_); refine box_event ?hg (N := 5) ?hd (cs := #[.int .i64 a2_0, .int .i64 a2_1]) (t := 38) ?hr ?_; (case hd => rfl); (case hg => rfl); (case hr => first | (go_simp; done) | (go_simp; rfl)); intro gb287 hg w30 hbox hb; have n0_ := Aside0.mk (blk_below (g := gb286) (o := .cells #[.slice A0_0 l0_0.length c0_0, .slice A0_1 l0_1.length c0_1] 25 (0, 0)) (by (with_reducible repeat (first | refine blk_drewN ?_ _ | refine blk_drew ?_ | refine blk_alloc ?_ _)); exact BK286.out) hb); have n1_ := Aside0.mk (below_step (by repeat (first | (with_reducible first | exact HB.out | apply below_alloc | apply pw_below_drewN | apply below_drew1 | refine below_set ?_ GE286.out) | exact HB.out)) hb); have n2_ := Aside0.mk (hbox); have n3_ := Aside0.mk ((by rw [hg]; exact (below_size (by repeat (first | (with_reducible first | exact HB.out | apply below_alloc | apply pw_below_drewN | apply below_drew1 | refine below_set ?_ GE286.out) | exact HB.out))) : w.heap.size ≤ gb287)); have n4_ := Aside0.mk ((by rw [hg]; exact (below_size (by repeat (first | (with_reducible first | exact HB.out | apply below_alloc | apply pw_below_drewN | apply below_drew1 | refine below_set ?_ GE286.out) | exact HB.out))) : w.heap.size ≤ gb287)); have n5_ := Aside0.mk ((by rw [hg]; exact Nat.ne_of_lt (blk_lt (g := gb286) (o := .cells #[.slice A0_0 l0_0.length c0_0, .slice A0_1 l0_1.length c0_1] 25 (0, 0)) (by (with_reducible repeat (first | refine blk_drewN ?_ _ | refine blk_drew ?_ | refine blk_alloc ?_ _)); exact BK286.out)) : gb286 ≠ gb287)); have n6_ := Aside0.mk ((by rw [hg]; exact Nat.ne_of_gt (blk_lt (g := gb286) (o := .cells #[.slice A0_0 l0_0.length c0_0, .slice A0_1 l0_1.length c0_1] 25 (0, 0)) (by (with_reducible repeat (first | refine blk_drewN ?_ _ | refine blk_drew ?_ | refine blk_alloc ?_ _)); exact BK286.out)) : gb287 ≠ gb286)); clear BK286; clear HB; have BK286 := n0_; have HB := n1_; have BK287 := n2_; have GW287 := n3_; have GE287 := n4_; have NB286_287 := n5_; have NB287_286 := n6_; clear n0_ n1_ n2_ n3_ n4_ n5_ n6_; clear hb hbox hg; have hnb31 := NB286_287.out; have hnc31 := NB287_286.out; have hcz32_0 : w30.cell? ⟨gb286, 0, none⟩ = some (.slice A0_0 l0_0.length c0_0) := (blk_cell BK286.out 0).trans rfl; have hcz32_1 : w30.cell? ⟨gb286, 1, none⟩ = some (.slice A0_1 l0_1.length c0_1) := (blk_cell BK286.out 1).trans rfl; have hfz32_0 := blk_frozen BK286.out 0; have hfz32_1 := blk_frozen BK286.out 1) | ((with_reducible refine gate_callee (f := 58) rfl ?_); refine goesL_ (some 10) rfl rfl Try.func58 (by kernel_rfl) rfl #[.agg #[.slice A0_0 l0_0.length c0_0, .slice A0_1 l0_1.length c0_1]] rfl (by (try simp only [List.map_toArray, List.map_cons, List.map_nil]); first | done | rfl | (simp only [List.length_drop, List.length_take]; rfl)) ?_; (with_reducible refine (signatoryref23_Check.calls k _ _ l0_0 _ _ l0_1 t288 _ ?side1 ?side2 ?side3 ?side4 A4.out).mono ?_); (case side1 => repeat (first | exact (Kd.C_below HR0_0.out HB.out) | (with_reducible refine Kd.C_alloc ?_ _) | (with_reducible refine Kd.C_drewN ?_ _) | (with_reducible refine Kd.C_drew ?_))); (case side2 => exact HC0_0.out); (case side3 => repeat (first | exact (Kd.C_below HR0_1.out HB.out) | (with_reducible refine Kd.C_alloc ?_ _) | (with_reducible refine Kd.C_drewN ?_ _) | (with_reducible refine Kd.C_drew ?_))); (case side4 => exact HC0_1.out); rintro e w33 ⟨rfl, hb⟩; refine ⟨_, rfl, ?_⟩; have n0_ := Aside0.mk (blk_below (g := gb286) (o := .cells #[.slice A0_0 l0_0.length c0_0, .slice A0_1 l0_1.length c0_1] 25 (0, 0)) (by (with_reducible repeat (first | refine blk_drewN ?_ _ | refine blk_drew ?_ | refine blk_alloc ?_ _)); exact BK286.out) hb); have n1_ := Aside0.mk (blk_below (g := gb287) (o := .cells #[.int .i64 a2_0, .int .i64 a2_1] 38 (0, 0)) (by (with_reducible repeat (first | refine blk_drewN ?_ _ | refine blk_drew ?_ | refine blk_alloc ?_ _)); exact BK287.out) hb); have n2_ := Aside0.mk (below_step (by repeat (first | (with_reducible first | exact HB.out | apply below_alloc | apply pw_below_drewN | apply below_drew1 | refine below_set ?_ GE286.out | refine below_set ?_ GE287.out) | exact HB.out)) hb); clear BK286; clear BK287; clear HB; have BK286 := n0_; have BK287 := n1_; have HB := n2_; clear n0_ n1_ n2_; (try clear hb); (try clear hb2); (try clear hk); (try clear hi)))
  go_ret2
  exact ⟨by first | rfl | (simp [errW_none, errW_some] <;> rfl) | (simp [*, errW_none, errW_some] <;> rfl), by repeat (first | (with_reducible first | exact HB.out | apply below_alloc | apply pw_below_drewN | apply below_drew1 | refine below_set ?_ GE286.out | refine below_set ?_ GE287.out) | exact HB.out)⟩
end Go.Proofs.Ytdbamhckgaoibaa.P
namespace Go.Proofs.Ytdbamhckgaoibaa.P
open Go.RowKit Go.Proofs.YtdbamhckgaoibaaW.PrintWords Go.Proofs.YtdbamhckgaoibaaW.PrintLast Go.Proofs.YtdbamhckgaoibaaW.PrintMore
theorem rpower_math {a n : Int} (h : isEl a = true) (k : Nat) (hk : 40 ≤ k) : signatoryref34_power.f k a n = some (a ^ (n % 1073741789).toNat % 2147483579) := by
  unfold signatoryref34_power.f
  rw [rpw_math a n k hk, h]; rfl
theorem rcommits_l0 (cm : List Int) (rows : List (List Int)) (owners : List Int) (hn : cm.length < 1000000) (k : Nat) (hk : 40 ≤ k) : ∀ d j, cm.length - j = d → j ≤ cm.length →
    signatoryref34_Commits.l0 (k + d + 1) cm (j : Int) rows owners = some (decide (cm.length = colsP rows) && !(cm.drop j).any noEl) := by
  intro d
  induction d with
  | zero =>
    intro j hd hj
    obtain rfl : j = cm.length := by omega
    rw [signatoryref34_Commits.l0, if_neg (by omega), colsRef_math, Option.bind_some, List.drop_length]
    congr 1
    rw [Bool.eq_iff_iff, beq_iff_eq]
    simp
    omega
  | succ d ih =>
    intro j hd hj
    have h1 : j < cm.length := by omega
    have e1 : cm.getD j 0 = cm[j] := by rw [List.getD_eq_getElem?_getD, List.getElem?_eq_getElem h1]; rfl
    rw [signatoryref34_Commits.l0, if_pos (by omega), if_pos (by omega), rd_nat, e1, rvalid_math _ _ (by omega), Option.bind_some, List.drop_eq_getElem_cons h1, List.any_cons]
    have hne : noEl cm[j] = !isEl cm[j] := rfl
    rw [hne]
    cases isEl cm[j] with
    | false => simp
    | true =>
      rw [if_pos rfl, wrap_succ (by omega), ← Nat.add_assoc, ih (j + 1) (by omega) (by omega)]; rfl
theorem rcommits_math (cm : List Int) (rows : List (List Int)) (owners : List Int) (hn : cm.length ≤ 1000) (k : Nat) (hk : 2000 ≤ k) : signatoryref34_Commits.f k rows owners cm = some (decide (cm.length = colsP rows) && !cm.any noEl) := by
  unfold signatoryref34_Commits.f
  obtain ⟨k, rfl⟩ : ∃ k', k = k' + cm.length + 1 := ⟨k - cm.length - 1, by omega⟩
  exact rcommits_l0 cm rows owners (by omega) k (by omega) cm.length 0 (by omega) (by omega)
theorem rpublic_l0 (cm : List Int) (rows : List (List Int)) (owners : List Int) (i : Nat) (hi : i < rows.length) (hl : (rows.getD i []).length = cm.length) (he : ∀ c ∈ cm, isEl c = true) (hn : cm.length < 1000000) (k : Nat) (hk : 40 ≤ k) : ∀ d j x, cm.length - j = d → j ≤ cm.length → isEl x = true →
    signatoryref34_public.l0 (k + d + 1) cm (i : Int) x (j : Int) rows owners = some (pubFrom x (cm.drop j) ((rows.getD i []).drop j)) := by
  intro d
  induction d with
  | zero =>
    intro j x hd hj hx
    obtain rfl : j = cm.length := by omega
    rw [signatoryref34_public.l0, if_neg (by omega), List.drop_length]; rfl
  | succ d ih =>
    intro j x hd hj hx
    have h1 : j < cm.length := by omega
    have hst := pub_step hx h1 hl he
    have hc : isEl (cm.getD j 0) = true := he _ (by rw [List.getD_eq_getElem?_getD, List.getElem?_eq_getElem h1]; exact List.getElem_mem h1)
    rw [signatoryref34_public.l0, if_pos (by omega), if_pos (by omega), if_pos (by omega), if_pos (by omega), rd_L1_nat, if_pos (by omega), rd_nat, rd_nat, rpower_math hc _ (by omega), Option.bind_some, rmul_math _ _ _ (by omega), hx, el_powI hc]
    rw [Bool.and_self, if_pos rfl, Option.bind_some, wrap_succ (by omega), ← Nat.add_assoc, ← hst.2]
    exact ih (j + 1) _ (by omega) (by omega) hst.1
theorem rpublic_math {cm : List Int} {rows : List (List Int)} {owners : List Int} (hd : checkD rows owners cm = 0) {i : Nat} (hi : i < rows.length) (k : Nat) (hk : 2000 ≤ k) : signatoryref34_public.f k rows owners cm (i : Int) = some (pubFrom 1 cm (rows.getD i [])) := by
  obtain ⟨h1, h2⟩ := dcheck_right hd hi
  have hl : cm.length ≤ 64 := by rw [← h1]; exact (check_ok (dcheck_ok hd).1).row i hi |>.2.2.1
  unfold signatoryref34_public.f
  obtain ⟨k, rfl⟩ : ∃ k', k = k' + cm.length + 1 := ⟨k - cm.length - 1, by omega⟩
  have := rpublic_l0 cm rows owners i hi h1 h2 (by omega) k (by omega) cm.length 0 1 (by omega) (by omega) el_one
  rw [List.drop_zero, List.drop_zero] at this
  exact this
theorem checkD_split (rows : List (List Int)) (owners cm : List Int) (h : checkP rows owners = 0) : checkD rows owners cm = if (decide (cm.length = colsP rows) && !cm.any noEl) = true then 0 else 340 := by
  unfold checkD
  rw [if_pos h]
  by_cases hl : cm.length = colsP rows
  · rw [decide_eq_true hl]
    cases cm.any noEl with
    | false => rw [if_pos ⟨hl, rfl⟩]; rfl
    | true => rw [if_neg (fun h => by cases h.2)]; rfl
  · rw [decide_eq_false hl, if_neg (fun h => hl h.1)]; rfl
theorem rFits_math (rows : List (List Int)) (owners cm : List Int) (row v : Int) (hn : cm.length ≤ 1000) (k : Nat) (hk : 5000 ≤ k) : signatoryref34_Fits.f k rows owners cm row v = some (fitsD rows owners cm row v) := by
  have hs : signatoryref34_share.f rows owners row v = some (rightS rows.length ⟨row, v⟩) := by
    unfold signatoryref34_share.f signatoryref34_Number.f rightS inQ
    by_cases h1 : row ≥ 0
    · rw [if_pos h1]
      by_cases h2 : row < (rows.length : Int)
      · rw [if_pos h2]
        by_cases h3 : v ≥ 0
        · rw [if_pos h3]; simp [h1, h2, h3]
        · rw [if_neg h3]; simp [h1, h2, h3]
      · rw [if_neg h2]; simp [h2]
    · rw [if_neg h1]; simp [show ¬ 0 ≤ row by omega]
  obtain ⟨k, rfl⟩ : ∃ k', k = k' + 1 := ⟨k - 1, by omega⟩
  unfold signatoryref34_Fits.f fitsD
  rw [refCheck_math _ _ _ hk, Option.bind_some]
  by_cases h : checkP rows owners = 0
  · rw [if_pos h, rcommits_math cm rows owners hn (k + 1) (by omega), Option.bind_some, checkD_split rows owners cm h]
    cases hb : (decide (cm.length = colsP rows) && !cm.any noEl) with
    | false => rw [if_neg (by decide), signatoryref34_Fits.j0, if_pos rfl]; rfl
    | true =>
      have hd : checkD rows owners cm = 0 := by rw [checkD_split rows owners cm h, hb]; rfl
      rw [if_pos rfl, if_pos rfl, if_pos rfl, hs, Option.bind_some, signatoryref34_Fits.j0]
      cases hr : rightS rows.length ⟨row, v⟩ with
      | false => rfl
      | true =>
        obtain ⟨h1, h2⟩ := rightS_row hr
        obtain ⟨i, rfl⟩ : ∃ i : Nat, row = (i : Int) := ⟨row.toNat, by omega⟩
        have hp : publicD rows owners cm (i : Int) = (pubFrom 1 cm (rows.getD i []), 0) := by
          unfold publicD
          rw [if_pos hd, if_pos ⟨h1, h2⟩]; rfl
        rw [if_neg (by decide), rpower_math el_four k (by omega), Option.bind_some, rpublic_math hd (by omega) k (by omega), Option.bind_some, if_pos rfl, hp]; rfl
  · have hd : checkD rows owners cm = checkP rows owners := by unfold checkD; rw [if_neg h]
    rw [if_neg h, hd, if_neg h]
end Go.Proofs.Ytdbamhckgaoibaa.P
namespace Go.Proofs.Ytdbamhckgaoibaa.P
open Go.RowKit Go.Proofs.YtdbamhckgaoibaaW.PrintWords Go.Proofs.YtdbamhckgaoibaaW.PrintLast Go.Proofs.YtdbamhckgaoibaaW.PrintMore
set_option linter.unusedVariables false
set_option linter.unusedSimpArgs false
def SaysC (g : Nat) (lb : Array Value) (p : Int → Bool) (w : World) : Prop := ∀ (x : Int) (W : World), Drawn0 w W → Calls Try.prog g (#[.int .i64 x] ++ lb) W fun e w' => e = .returned (.bool (p x)) ∧ Drawn0 W w'
set_option maxHeartbeats 1000000 in
theorem index_anyC {g : Nat} {lb : Array Value} {p : Int → Bool} (A0 : Option Addr) (c0 : Nat) (l : List Int) (w : World) (hs : SaysC g lb p w) (eg : ∀ args w, (callFunc g args).run Try.prog w = .ok (.enter g args) w) (hr : Kd.C (Kd.int .i64) w A0 l.length l) :
    Calls Try.prog 194 #[.slice A0 l.length c0, .func (.func g) #[] lb] w (Found p l w) := by
  have HS := Aside0.mk hs
  have HR := Aside0.mk hr
  have hlen : l.length ≤ 9223372036854775807 := hr.2.1
  clear hs hr
  go_enter Try.func194, Try.ntmps194
  go_wp2
  go_loopg [8] l.length (fun gk v8 w' => ∃ j : Nat, j + gk = l.length ∧ v8 = .int .i64 (j : Int) ∧ Aside0 ((l.take j).any p = false) ∧ Drawn0 w w')
  case atStart => exact ⟨0, by omega, rfl, ⟨by simp⟩, by repeat (first | exact Drawn0.refl _ | apply Drawn0.step)⟩
  case round =>
    obtain ⟨j, hj, rfl, HA, ⟨m, rfl⟩⟩ := hrel
    by_cases hlt : j < l.length
    · have c1 : decide ((j : Int) < (l.length : Int)) = true := decide_eq_true (by omega)
      have c2 : decide (j < l.length) = true := decide_eq_true hlt
      obtain ⟨ad, e, hx⟩ := Kd.at_int HR.out (j : Int) (by omega) (by omega)
      cases e
      rw [Int.toNat_natCast] at hx
      have hrd : rd l (j : Int) = l[j] := by
        unfold rd
        rw [Int.toNat_natCast, List.getD_eq_getElem?_getD, List.getElem?_eq_getElem hlt]; rfl
      rw [hrd] at hx
      have c3 : (0 : Int) ≤ (j : Int) := by omega
      generalize hy : l[j] = y at hx
      have HY := Aside0.mk hy
      clear hy hrd
      go_wp2_with fail
      refine (HS.out _ _ (by repeat (first | exact Drawn0.refl _ | exact ⟨_, rfl⟩ | apply Drawn0.step))).mono ?_
      rintro e w' ⟨rfl, ⟨nd, rfl⟩⟩
      cases hpy : p y with
      | true =>
        have hf : l.any p = true := any_take_stop hlt (by rw [HY.out]; exact hpy)
        have HF := Aside0.mk hf
        clear hf hpy
        go_wp2
        go_ret
        exact ⟨(j : Int), by first | rfl | simp, by rw [HF.out]; exact decide_eq_true (by omega), by repeat (first | exact Drawn0.refl _ | apply Drawn0.step)⟩
      | false =>
        have HF := Aside0.mk (any_take_next hlt HA.out (by rw [HY.out]; exact hpy))
        clear hpy
        go_wp2
        go_roundg (gk - 1)
        case measure => omega
        case rel => exact ⟨j + 1, by omega, by go_num, HF, by repeat (first | exact Drawn0.refl _ | apply Drawn0.step)⟩
    · have hje : j = l.length := by omega
      have c1 : decide ((j : Int) < (l.length : Int)) = false := decide_eq_false (by omega)
      have c2 : decide (j < l.length) = false := decide_eq_false (by omega)
      have hf : l.any p = false := by have := HA.out; rw [hje, List.take_length] at this; exact this
      have HF := Aside0.mk hf
      clear hf hje
      go_wp2
      go_ret
      exact ⟨-1, by first | rfl | simp, by rw [HF.out]; rfl, by repeat (first | exact Drawn0.refl _ | apply Drawn0.step)⟩
theorem contains_anyC {g : Nat} {lb : Array Value} {p : Int → Bool} (A0 : Option Addr) (c0 : Nat) (l : List Int) (w : World) (hs : SaysC g lb p w) (eg : ∀ args w, (callFunc g args).run Try.prog w = .ok (.enter g args) w) (hr : Kd.C (Kd.int .i64) w A0 l.length l) :
    Calls Try.prog 161 #[.slice A0 l.length c0, .func (.func g) #[] lb] w fun e w' => e = .returned (.bool (l.any p)) ∧ Drawn0 w w' := by
  have HG := index_anyC A0 c0 l w hs eg hr
  clear hs hr eg
  unfold Found at HG
  generalize l.any p = b at HG ⊢
  have HG := Aside0.mk HG
  go_enter Try.func161, Try.ntmps161
  go_wp2_with fail
  refine HG.out.mono ?_
  rintro e w' ⟨i, rfl, hi, ⟨nd, rfl⟩⟩
  go_wp2
  go_ret
  exact ⟨by first | rfl | simp, by repeat (first | exact Drawn0.refl _ | apply Drawn0.step)⟩
theorem inOrder_w (x : Int) (w : World) : Calls Try.prog 111 #[.int .i64 x] w fun e w' => e = .returned (.bool (inQ x)) ∧ Drawn0 w w' := by
  by_cases h1 : 0 ≤ x
  · by_cases h2 : x < 1073741789
    · have HQ : Aside0 (inQ x = true) := ⟨by unfold inQ; rw [decide_eq_true h1, decide_eq_true h2]; rfl⟩
      go_enter Try.func111, Try.ntmps111
      go_wp2
      go_ret
      exact ⟨ret_b HQ.out, by repeat (first | exact Drawn0.refl _ | apply Drawn0.step)⟩
    · have HQ : Aside0 (inQ x = false) := ⟨by unfold inQ; rw [decide_eq_false h2, Bool.and_false]⟩
      have n1 : decide (x < 1073741789) = false := decide_eq_false h2
      go_enter Try.func111, Try.ntmps111
      go_wp2
      go_ret
      exact ⟨ret_b HQ.out, by repeat (first | exact Drawn0.refl _ | apply Drawn0.step)⟩
  · have HQ : Aside0 (inQ x = false) := ⟨by unfold inQ; rw [decide_eq_false h1, Bool.false_and]⟩
    have n1 : decide (0 ≤ x) = false := decide_eq_false h1
    go_enter Try.func111, Try.ntmps111
    go_wp2
    go_ret
    exact ⟨ret_b HQ.out, by repeat (first | exact Drawn0.refl _ | apply Drawn0.step)⟩
theorem notIn_w (b : Nat) (x : Int) (w : World) (hx : w.cell? ⟨b, 0, none⟩ = some (.func (.func 111) #[] #[])) : Calls Try.prog 180 #[.int .i64 x, .pointer (some ⟨b, 0, none⟩)] w fun e w' => e = .returned (.bool (!inQ x)) ∧ Drawn0 w w' := by
  have HI := Aside0.mk (inOrder_w x)
  generalize inQ x = q at HI ⊢
  go_enter Try.func180, Try.ntmps180
  go_wp2_with fail
  refine (HI.out _).mono ?_
  rintro e w' ⟨rfl, ⟨nd, rfl⟩⟩
  go_wp2
  go_ret
  exact ⟨by first | rfl | simp, by repeat (first | exact Drawn0.refl _ | apply Drawn0.step)⟩
def allQ (l : List Int) : Bool := decide (l.length ≤ 64) && !l.any fun x => !inQ x
set_option maxHeartbeats 1000000 in
theorem all_w {A : Option Addr} {c : Nat} {l : List Int} {w : World} (h : Sl (Kd.int .i64) w A c l) : Calls Try.prog 112 #[.slice A l.length c, .func (.func 111) #[] #[]] w fun e w' => e = .returned (.bool (allQ l)) ∧ Below w.heap.size w w' := by
  have hmf : ∀ (fn : Fn) (first cap : Array Value) (w : World), (Instr.makeFunc fn first cap).run Try.prog w = .ok (.func fn first cap) w := fun _ _ _ _ => rfl
  obtain ⟨W1, hW1⟩ : ∃ W1, W1 = w.alloc (.cells #[.func (.func 111) #[] #[]] 77) := ⟨_, rfl⟩
  have hb : Below w.heap.size w W1 := by rw [hW1]; exact below_alloc1 _ _
  have hx : W1.cell? ⟨w.heap.size, 0, none⟩ = some (.func (.func 111) #[] #[]) := by rw [hW1]; exact (Bx.new _ _ _).1
  have hsz : w.heap.size < W1.heap.size := by rw [hW1]; simp
  have HC := Aside0.mk (contains_anyC (g := 180) (lb := #[.pointer (some ⟨w.heap.size, 0, none⟩)]) (p := fun x => !inQ x) A c l W1 (fun x W hd => notIn_w w.heap.size x W ((hd.below.cell (p := ⟨w.heap.size, 0, none⟩) hsz).trans hx)) (fun args w => enters_ Try.func180 (by kernel_rfl) rfl args w) (h.below hb).rd)
  have HQ : Aside0 (allQ l = (decide (l.length ≤ 64) && !l.any fun x => !inQ x)) := ⟨rfl⟩
  generalize (l.any fun x => !inQ x) = q at HC HQ
  have HB := Aside0.mk hb
  have HW := Aside0.mk hW1
  clear hx hb hsz hW1 h
  by_cases hl : l.length ≤ 64
  · have d1 : decide ((l.length : Int) ≤ 64) = true := decide_eq_true (by omega)
    have d2 : decide (l.length ≤ 64) = true := decide_eq_true hl
    rw [d2] at HQ
    go_enter Try.func112, Try.ntmps112
    go_wp2_with fail
    rw [← HW.out]
    refine HC.out.mono ?_
    rintro e w' ⟨rfl, hd⟩
    have HB2 := Aside0.mk (below_then HB.out HB.out.size hd.below)
    clear hd
    go_wp2
    go_ret
    exact ⟨ret_b (by rw [HQ.out, Bool.true_and]), HB2.out⟩
  · have d1 : decide ((l.length : Int) ≤ 64) = false := decide_eq_false (by omega)
    have d2 : decide (l.length ≤ 64) = false := decide_eq_false hl
    rw [d2] at HQ
    go_enter Try.func112, Try.ntmps112
    go_wp2
    go_ret
    exact ⟨ret_b (by rw [HQ.out, Bool.false_and]), below_alloc1 _ _⟩
def sumL (l : List Int) : Int := l.foldl (fun n x => Int.tmod (wrap64 (n + x)) 1073741789) 0
set_option maxHeartbeats 1000000 in
theorem sum_w {A : Option Addr} {c : Nat} {l : List Int} {w : World} (h : Sl (Kd.int .i64) w A c l) : Calls Try.prog 113 #[.slice A l.length c] w fun e w' => e = .returned (.int .i64 (sumL l)) ∧ Below w.heap.size w w' := by
  have HR := Aside0.mk h
  clear h
  go_enter Try.func113, Try.ntmps113
  go_wp2
  go_loopg [2, 7] l.length (fun gk v2 v7 wr => ∃ j : Nat, j ≤ l.length ∧ gk = l.length - j ∧ v7 = .int .i64 (j : Int) ∧ v2 = .int .i64 (sumL (l.take j)) ∧ Aside0 (Below w.heap.size w wr))
  case atStart => exact ⟨0, Nat.zero_le _, rfl, rfl, rfl, ⟨by first | exact Below.refl _ _ | exact pw_below_drewN (Below.refl _ _) _⟩⟩
  case round =>
    obtain ⟨j, hj, rfl, rfl, rfl, HB⟩ := hrel
    by_cases hlt : j < l.length
    · have d1 : decide ((j : Int) < (l.length : Int)) = true := decide_eq_true (by omega)
      have d2 : decide (j < l.length) = true := decide_eq_true hlt
      have d3 : (0 : Int) ≤ (j : Int) := by omega
      obtain ⟨ad, e, hx⟩ := Kd.at_int HR.out.rd (j : Int) (by omega) (by omega)
      cases e
      rw [rd_nat, Int.toNat_natCast] at hx
      replace hx := (HB.out.cell (World.block_lt_of_cell? w _ hx)).trans hx
      have hs : sumL (l.take (j + 1)) = Int.tmod (wrap64 (sumL (l.take j) + l.getD j 0)) 1073741789 := by
        unfold sumL
        rw [List.take_succ_eq_append_getElem hlt, List.foldl_append, List.getD_eq_getElem?_getD, List.getElem?_eq_getElem hlt]; rfl
      have HS := Aside0.mk hs
      have HL := Aside0.mk HR.out.rd.2.1
      generalize sumL (l.take j) = s at HS ⊢
      generalize l.getD j 0 = x at hx HS
      clear hs
      go_wp2
      go_roundg (l.length - (j + 1))
      case measure => omega
      case rel => exact ⟨j + 1, by omega, rfl, by first | rfl | rw [wrap_nextB (by have := HL.out; omega)], by rw [HS.out], ⟨by first | exact HB.out | exact pw_below_drewN HB.out _⟩⟩
    · obtain rfl : j = l.length := by omega
      have d1 : decide ((l.length : Int) < (l.length : Int)) = false := decide_eq_false (by omega)
      rw [List.take_length]
      go_wp2
      go_ret
      exact ⟨rfl, HB.out⟩
end Go.Proofs.Ytdbamhckgaoibaa.P
namespace Go.Proofs.Ytdbamhckgaoibaa.P
open Go.RowKit Go.Proofs.YtdbamhckgaoibaaW.PrintWords Go.Proofs.YtdbamhckgaoibaaW.PrintLast Go.Proofs.YtdbamhckgaoibaaW.PrintMore
set_option linter.unusedVariables false
def partQ (y f0 f1 : Int) (masks : List Int) : Int × Int :=
  if inQ y = true then (if allQ masks = true then (if 0 ≤ f0 then (if f0 < 64 then (if inQ f1 = true then (sumL [Int.tmod (wrap64 (y * f1)) 1073741789, sumL masks], 0) else (0, 340)) else (0, 340)) else (0, 340)) else (0, 1)) else (0, 1)
theorem sum2_c (W : World) (a b : Int) : Calls Try.prog 113 #[.slice (some ⟨W.heap.size, 0, none⟩) 2 2] (W.alloc (.cells #[.int .i64 a, .int .i64 b] 3)) fun e w' => e = .returned (.int .i64 (sumL [a, b])) ∧ Below W.heap.size W w' :=
  (sum_w (Sl.ints W 3 [a, b] (by show 2 ≤ 1000000; decide))).mono fun e w' h => ⟨h.1, below_then (below_alloc1 _ _) (below_alloc1 _ _).size h.2⟩
set_option maxRecDepth 100000 in
set_option maxHeartbeats 4000000 in
theorem part_w {y f0 f1 : Int} {A2 : Option Addr} {c2 : Nat} {masks : List Int} {w : World} (h2 : Sl (Kd.int .i64) w A2 c2 masks) :
    Calls Try.prog 42 #[.int .i64 y, .agg #[.int .i64 f0, .int .i64 f1], .slice A2 masks.length c2] w fun e w' => e = .returned (.tuple #[.int .i64 (partQ y f0 f1 masks).1, .int .i64 (partQ y f0 f1 masks).2]) ∧ Below w.heap.size w w' := by
  have H_m := Aside0.mk h2
  have HB := Aside0.mk (Below.refl w.heap.size w)
  have HP : Aside0 (partQ y f0 f1 masks = if inQ y = true then (if allQ masks = true then (if 0 ≤ f0 then (if f0 < 64 then (if inQ f1 = true then (sumL [Int.tmod (wrap64 (y * f1)) 1073741789, sumL masks], 0) else (0, 340)) else (0, 340)) else (0, 340)) else (0, 1)) else (0, 1)) := ⟨rfl⟩
  have HI := Aside0.mk (inOrder_w y)
  generalize inQ y = q at HI HP
  have HS := Aside0.mk (fun (W : World) (g : Sl (Kd.int .i64) W A2 c2 masks) => sum_w g)
  have HA := Aside0.mk (fun (W : World) (g : Sl (Kd.int .i64) W A2 c2 masks) => all_w g)
  have HI1 := Aside0.mk (inOrder_w f1)
  generalize sumL masks = sm at HS HP
  generalize allQ masks = qa at HA HP
  generalize inQ f1 = q1 at HI1 HP
  clear h2
  go_enter Try.func42, Try.ntmps42
  go_wp2_with fail
  obtain ⟨w1, hw⟩ : ∃ W_, W_ = w.alloc (.cells #[.int .i64 f0, .int .i64 f1] 38) := ⟨_, rfl⟩
  rw [← hw]
  have hb : Below w.heap.size w w1 := by rw [hw]; exact below_alloc1 _ _
  have hz : w.heap.size = w.heap.size := rfl
  have hs : w1.heap.size = w.heap.size + 1 := by rw [hw, ← hz]; simp
  replace H_m := Aside0.mk (H_m.out.below hb)
  replace HB := Aside0.mk (below_then HB.out HB.out.size hb)
  have H_sh0 := Aside0.mk (⟨by rw [hw, ← hz]; simp only [World.cell?]; rw [World.alloc_heap_new]; rfl, by rw [hs]; omega⟩ : w1.cell? ⟨w.heap.size, 0, none⟩ = some (.int .i64 f0) ∧ w.heap.size < w1.heap.size)
  have H_sh1 := Aside0.mk (⟨by rw [hw, ← hz]; simp only [World.cell?]; rw [World.alloc_heap_new]; rfl, by rw [hs]; omega⟩ : w1.cell? ⟨w.heap.size, 1, none⟩ = some (.int .i64 f1) ∧ w.heap.size < w1.heap.size)
  clear hw hb hz
  have HZ := Aside0.mk hs; clear hs
  refine (HI.out _).mono ?_
  rintro e w2 ⟨rfl, hd⟩
  have hb := hd.below
  clear hd
  replace H_m := Aside0.mk (H_m.out.below hb)
  replace H_sh0 := Aside0.mk (cell_on H_sh0.out hb)
  replace H_sh1 := Aside0.mk (cell_on H_sh1.out hb)
  replace HB := Aside0.mk (below_then HB.out HB.out.size hb)
  clear hb
  cases q with
  | false =>
    go_wp2
    go_ret2
    exact ⟨ret_ii (by rw [HP.out]; simp []), HB.out⟩
  | true =>
    go_wp2_with fail
    refine (HA.out _ H_m.out).mono ?_
    rintro e w3 ⟨rfl, hb⟩
    replace H_m := Aside0.mk (H_m.out.below hb)
    replace H_sh0 := Aside0.mk (cell_on H_sh0.out hb)
    replace H_sh1 := Aside0.mk (cell_on H_sh1.out hb)
    replace HB := Aside0.mk (below_then HB.out HB.out.size hb)
    clear hb
    cases qa with
    | false =>
      go_wp2
      go_ret2
      exact ⟨ret_ii (by rw [HP.out]; simp []), HB.out⟩
    | true =>
      by_cases g0 : 0 ≤ f0
      · skip
        by_cases g1 : f0 < 64
        · skip
          have n0 : decide (f0 < 0) = false := decide_eq_false (by omega)
          have n1 : decide (64 ≤ f0) = false := decide_eq_false (by omega)
          have HG := Aside0.mk (And.intro g0 g1)
          clear g0 g1
          have x_sh0 := H_sh0.out.1
          have x_sh1 := H_sh1.out.1
          go_wp2_with fail
          clear x_sh0 x_sh1
          refine (HI1.out _).mono ?_
          rintro e w4 ⟨rfl, hd⟩
          have hb := hd.below
          clear hd
          replace H_m := Aside0.mk (H_m.out.below hb)
          replace H_sh0 := Aside0.mk (cell_on H_sh0.out hb)
          replace H_sh1 := Aside0.mk (cell_on H_sh1.out hb)
          replace HB := Aside0.mk (below_then HB.out HB.out.size hb)
          clear hb
          cases q1 with
          | false =>
            go_wp2
            go_ret2
            exact ⟨ret_ii (by rw [HP.out]; simp [HG.out.1, HG.out.2]), HB.out⟩
          | true =>
            have x_sh1 := H_sh1.out.1
            go_upto_region 5 with fail
            go_region_with (first
              | (go_at_call_of 113 (Value.slice A2 masks.length c2); refine (HS.out _ ?_).mono ?_; exact H_m.out.below ((Below.refl _ _).drew); rintro e w5 ⟨rfl, hb⟩; have x5 := (cell_on H_sh1.out (Below.trans ((Below.refl _ _).drew) hb)).1; have HB5 := Aside0.mk (below_then HB.out HB.out.size (Below.trans ((Below.refl _ _).drew) hb)); clear hb)
              | (refine (sum2_c w5 _ _).mono ?_; rintro e w6 ⟨rfl, hb⟩; have HB6 := Aside0.mk (below_then HB5.out HB5.out.size hb); clear hb))
            all_goals go_wp2
            all_goals go_ret2
            all_goals exact ⟨ret_ii (by rw [HP.out, i64_w]; simp only [if_true, if_pos HG.out.1, if_pos HG.out.2]), HB6.out⟩
        · skip
          have n0 : decide (f0 < 0) = false := decide_eq_false (by omega)
          have n1 : decide (64 ≤ f0) = true := decide_eq_true (by omega)
          have HG := Aside0.mk (And.intro g0 g1)
          clear g0 g1
          have x_sh0 := H_sh0.out.1
          have x_sh1 := H_sh1.out.1
          go_wp2
          go_ret2
          exact ⟨ret_ii (by rw [HP.out]; simp [HG.out.1, Int.not_lt.mpr HG.out.2]), HB.out⟩
      · skip
        have n0 : decide (f0 < 0) = true := decide_eq_true (by omega)
        have HG := Aside0.mk g0
        clear g0
        have x_sh0 := H_sh0.out.1
        go_wp2
        go_ret2
        exact ⟨ret_ii (by rw [HP.out]; simp [Int.not_le.mpr HG.out]), HB.out⟩
end Go.Proofs.Ytdbamhckgaoibaa.P
namespace Go.Proofs.Ytdbamhckgaoibaa.P
open Go.RowKit Go.Proofs.YtdbamhckgaoibaaW.PrintWords Go.Proofs.YtdbamhckgaoibaaW.PrintLast Go.Proofs.YtdbamhckgaoibaaW.PrintMore
set_option linter.unusedVariables false
def finishQ (rows : List (List Int)) (owners cm : List Int) (row : Int) (parts : List Int) : Int × Int × Bool × Int :=
  if (publicD rows owners cm row).2 = 0 then (if allQ parts = true then (if (fitsD rows owners cm row (sumL parts)).2 = 0 ∧ (fitsD rows owners cm row (sumL parts)).1 = true then (row, sumL parts, true, 0) else (0, 0, false, (fitsD rows owners cm row (sumL parts)).2)) else (0, 0, false, 1)) else (0, 0, false, (publicD rows owners cm row).2)
theorem results_fin (tmps : Array Value) (W : World) (b : Nat) (a c v7 v8 : Value) (h6 : tmps[6]?.getD undef = .pointer (some ⟨b, 0, none⟩)) (h7 : tmps[7]?.getD undef = v7) (h8 : tmps[8]?.getD undef = v8) (ha : W.cell? ⟨b, 0, none⟩ = some a) (hc : W.cell? ⟨b, 1, none⟩ = some c) :
    (results Try.f45 tmps).run Try.prog W = .ok (.tuple #[.agg #[a, c], v7, v8]) W := by
  simp [results, Try.results45, go_sem, h6, h7, h8, ha, hc]
theorem two_set {W : World} {b : Nat} {x0 x1 : Value} (h0 : W.cell? ⟨b, 0, none⟩ = some x0) (h1 : W.cell? ⟨b, 1, none⟩ = some x1) (a c : Value) :
    ((W.setCell ⟨b, 0, none⟩ a).setCell ⟨b, 1, none⟩ c).cell? ⟨b, 0, none⟩ = some a ∧ ((W.setCell ⟨b, 0, none⟩ a).setCell ⟨b, 1, none⟩ c).cell? ⟨b, 1, none⟩ = some c ∧ (∀ j, ((W.setCell ⟨b, 0, none⟩ a).setCell ⟨b, 1, none⟩ c).frozen? ⟨b, j, none⟩ = W.frozen? ⟨b, j, none⟩) ∧ ∀ b' j, b ≠ b' → ((W.setCell ⟨b, 0, none⟩ a).setCell ⟨b, 1, none⟩ c).cell? ⟨b', j, none⟩ = W.cell? ⟨b', j, none⟩ := by
  have e1 : (W.setCell ⟨b, 0, none⟩ a).cell? ⟨b, 0, none⟩ = some a := World.cell?_setCell_same' _ _ _ (by rw [h0]; rfl)
  have e2 : (W.setCell ⟨b, 0, none⟩ a).cell? ⟨b, 1, none⟩ = some x1 := (World.cell?_setCell_other _ _ _ _ (by simp)).trans h1
  refine ⟨(World.cell?_setCell_other _ _ _ _ (by simp)).trans e1, World.cell?_setCell_same' _ _ _ (by rw [e2]; rfl), fun j => by rw [World.frozen?_setCell, World.frozen?_setCell], fun b' j hne => ?_⟩
  rw [World.cell?_setCell_far _ ⟨b, 1, none⟩ ⟨b', j, none⟩ _ hne, World.cell?_setCell_far _ ⟨b, 0, none⟩ ⟨b', j, none⟩ _ hne]
theorem ret_fin {a b d : Int} {q : Bool} {p : Int × Int × Bool × Int} (h : p = (a, b, q, d)) : Ending.returned (.tuple #[.agg #[.int .i64 a, .int .i64 b], .bool q, .int .i64 d]) = .returned (.tuple #[.agg #[.int .i64 p.1, .int .i64 p.2.1], .bool p.2.2.1, .int .i64 p.2.2.2]) := by rw [h]
theorem frz_on {w w' : World} {b j : Nat} (h : w.frozen? ⟨b, j, none⟩ = false ∧ b < w.heap.size) (hb : Below w.heap.size w w') : w'.frozen? ⟨b, j, none⟩ = false ∧ b < w'.heap.size :=
  ⟨(hb.frozen (p := ⟨b, j, none⟩) h.2).trans h.1, Nat.lt_of_lt_of_le h.2 hb.size⟩
set_option maxRecDepth 100000 in
set_option maxHeartbeats 4000000 in
theorem finish_w {A0 A1 A2 : Option Addr} {c0 c1 c2 : Nat} {rows : List (List Int)} {owners : List Int} {cm : List Int} {ep row : Int} {A3 : Option Addr} {c3 : Nat} {parts : List Int} {w : World} (h0 : Sl (Kd.slice 3 (Kd.int .i64)) w A0 c0 rows) (h1 : Sl (Kd.int .i64) w A1 c1 owners) (h2 : Sl (Kd.int .i64) w A2 c2 cm) (h3 : Sl (Kd.int .i64) w A3 c3 parts) :
    Calls Try.prog 45 #[.agg #[.int .i64 ep, .slice A0 rows.length c0, .slice A1 owners.length c1, .slice A2 cm.length c2], .int .i64 row, .slice A3 parts.length c3] w fun e w' => e = .returned (.tuple #[.agg #[.int .i64 (finishQ rows owners cm row parts).1, .int .i64 (finishQ rows owners cm row parts).2.1], .bool (finishQ rows owners cm row parts).2.2.1, .int .i64 (finishQ rows owners cm row parts).2.2.2]) ∧ Below w.heap.size w w' := by
  have H_rows := Aside0.mk h0
  have H_own := Aside0.mk h1
  have H_cm := Aside0.mk h2
  have H_m := Aside0.mk h3
  have HB := Aside0.mk (Below.refl w.heap.size w)
  clear h0 h1 h2 h3
  obtain ⟨t0, t, ht⟩ : ∃ t0 t, publicD rows owners cm row = (t0, t) := ⟨_, _, rfl⟩
  have HP : Aside0 (∀ W, Sl (Kd.slice 3 (Kd.int .i64)) W A0 c0 rows → Sl (Kd.int .i64) W A1 c1 owners → Sl (Kd.int .i64) W A2 c2 cm → Calls Try.prog 28 #[.agg #[.slice A0 rows.length c0, .slice A1 owners.length c1], .slice A2 cm.length c2, .int .i64 row] W fun e w' => e = .returned (.tuple #[.int .i64 t0, .int .i64 t]) ∧ Below W.heap.size W w') := ⟨fun W g0 g1 g2 => by have := public_w (row := row) g0 g1 g2; rwa [ht] at this⟩
  have HS := Aside0.mk (fun (W : World) (g : Sl (Kd.int .i64) W A3 c3 parts) => sum_w g)
  have HA := Aside0.mk (fun (W : World) (g : Sl (Kd.int .i64) W A3 c3 parts) => all_w g)
  obtain ⟨b, u, hu⟩ : ∃ b u, fitsD rows owners cm row (sumL parts) = (b, u) := ⟨_, _, rfl⟩
  have HFT : Aside0 (∀ W, Sl (Kd.slice 3 (Kd.int .i64)) W A0 c0 rows → Sl (Kd.int .i64) W A1 c1 owners → Sl (Kd.int .i64) W A2 c2 cm → Calls Try.prog 30 #[.agg #[.slice A0 rows.length c0, .slice A1 owners.length c1], .slice A2 cm.length c2, .agg #[.int .i64 row, .int .i64 (sumL parts)]] W fun e w' => e = .returned (.tuple #[.bool b, .int .i64 u]) ∧ Below W.heap.size W w') := ⟨fun W g0 g1 g2 => by have := fits_w (row := row) (v := sumL parts) g0 g1 g2; rwa [hu] at this⟩
  have HF : Aside0 (finishQ rows owners cm row parts = if t = 0 then (if allQ parts = true then (if u = 0 ∧ b = true then (row, sumL parts, true, 0) else (0, 0, false, u)) else (0, 0, false, 1)) else (0, 0, false, t)) := ⟨by unfold finishQ; rw [ht, hu]⟩
  generalize sumL parts = sm at HS HFT HF
  generalize allQ parts = qa at HA HF
  clear ht hu
  have HG := Aside0.mk (And.intro H_rows.out (And.intro H_own.out H_cm.out))
  go_enter Try.func45, Try.ntmps45
  go_wp2_with fail
  obtain ⟨w1, hw⟩ : ∃ W_, W_ = w.alloc (.cells #[.int .i64 ep, .slice A0 rows.length c0, .slice A1 owners.length c1, .slice A2 cm.length c2] 57) := ⟨_, rfl⟩
  rw [← hw]
  have hb : Below w.heap.size w w1 := by rw [hw]; exact below_alloc1 _ _
  have hz : w.heap.size = w.heap.size := rfl
  have hs : w1.heap.size = w.heap.size + 1 := by rw [hw, ← hz]; simp
  replace H_rows := Aside0.mk (H_rows.out.below hb)
  replace H_own := Aside0.mk (H_own.out.below hb)
  replace H_cm := Aside0.mk (H_cm.out.below hb)
  replace H_m := Aside0.mk (H_m.out.below hb)
  replace HB := Aside0.mk (below_then HB.out HB.out.size hb)
  have H_ky0 := Aside0.mk (⟨by rw [hw, ← hz]; simp only [World.cell?]; rw [World.alloc_heap_new]; rfl, by rw [hs]; omega⟩ : w1.cell? ⟨w.heap.size, 0, none⟩ = some (.int .i64 ep) ∧ w.heap.size < w1.heap.size)
  have H_ky1 := Aside0.mk (⟨by rw [hw, ← hz]; simp only [World.cell?]; rw [World.alloc_heap_new]; rfl, by rw [hs]; omega⟩ : w1.cell? ⟨w.heap.size, 1, none⟩ = some (.slice A0 rows.length c0) ∧ w.heap.size < w1.heap.size)
  have H_ky2 := Aside0.mk (⟨by rw [hw, ← hz]; simp only [World.cell?]; rw [World.alloc_heap_new]; rfl, by rw [hs]; omega⟩ : w1.cell? ⟨w.heap.size, 2, none⟩ = some (.slice A1 owners.length c1) ∧ w.heap.size < w1.heap.size)
  have H_ky3 := Aside0.mk (⟨by rw [hw, ← hz]; simp only [World.cell?]; rw [World.alloc_heap_new]; rfl, by rw [hs]; omega⟩ : w1.cell? ⟨w.heap.size, 3, none⟩ = some (.slice A2 cm.length c2) ∧ w.heap.size < w1.heap.size)
  clear hw hb hz
  have HZ := Aside0.mk hs; clear hs
  obtain ⟨w2, hw⟩ : ∃ W_, W_ = w1.alloc (.cells #[.int .i64 0, .int .i64 0] 38) := ⟨_, rfl⟩
  rw [← hw]
  have hb : Below w1.heap.size w1 w2 := by rw [hw]; exact below_alloc1 _ _
  have hz : w1.heap.size = w.heap.size + 1 := HZ.out
  have hs : w2.heap.size = w.heap.size + 1 + 1 := by rw [hw, ← hz]; simp
  replace H_rows := Aside0.mk (H_rows.out.below hb)
  replace H_own := Aside0.mk (H_own.out.below hb)
  replace H_cm := Aside0.mk (H_cm.out.below hb)
  replace H_m := Aside0.mk (H_m.out.below hb)
  replace H_ky0 := Aside0.mk (cell_on H_ky0.out hb)
  replace H_ky1 := Aside0.mk (cell_on H_ky1.out hb)
  replace H_ky2 := Aside0.mk (cell_on H_ky2.out hb)
  replace H_ky3 := Aside0.mk (cell_on H_ky3.out hb)
  replace HB := Aside0.mk (below_then HB.out HB.out.size hb)
  have H_rs0 := Aside0.mk (⟨by rw [hw, ← hz]; simp only [World.cell?]; rw [World.alloc_heap_new]; rfl, by rw [hs]; omega⟩ : w2.cell? ⟨w.heap.size + 1, 0, none⟩ = some (.int .i64 0) ∧ w.heap.size + 1 < w2.heap.size)
  have H_zrs0 := Aside0.mk (⟨by rw [hw, ← hz]; exact World.frozen?_alloc_at _ _ _ _ rfl, by rw [hs]; omega⟩ : w2.frozen? ⟨w.heap.size + 1, 0, none⟩ = false ∧ w.heap.size + 1 < w2.heap.size)
  have H_rs1 := Aside0.mk (⟨by rw [hw, ← hz]; simp only [World.cell?]; rw [World.alloc_heap_new]; rfl, by rw [hs]; omega⟩ : w2.cell? ⟨w.heap.size + 1, 1, none⟩ = some (.int .i64 0) ∧ w.heap.size + 1 < w2.heap.size)
  have H_zrs1 := Aside0.mk (⟨by rw [hw, ← hz]; exact World.frozen?_alloc_at _ _ _ _ rfl, by rw [hs]; omega⟩ : w2.frozen? ⟨w.heap.size + 1, 1, none⟩ = false ∧ w.heap.size + 1 < w2.heap.size)
  clear hw hb hz
  have HZ := Aside0.mk hs; clear hs
  refine (HP.out _ H_rows.out H_own.out H_cm.out).mono ?_
  rintro e w3 ⟨rfl, hb⟩
  replace H_rows := Aside0.mk (H_rows.out.below hb)
  replace H_own := Aside0.mk (H_own.out.below hb)
  replace H_cm := Aside0.mk (H_cm.out.below hb)
  replace H_m := Aside0.mk (H_m.out.below hb)
  replace H_ky0 := Aside0.mk (cell_on H_ky0.out hb)
  replace H_ky1 := Aside0.mk (cell_on H_ky1.out hb)
  replace H_ky2 := Aside0.mk (cell_on H_ky2.out hb)
  replace H_ky3 := Aside0.mk (cell_on H_ky3.out hb)
  replace H_rs0 := Aside0.mk (cell_on H_rs0.out hb)
  replace H_zrs0 := Aside0.mk (frz_on H_zrs0.out hb)
  replace H_rs1 := Aside0.mk (cell_on H_rs1.out hb)
  replace H_zrs1 := Aside0.mk (frz_on H_zrs1.out hb)
  replace HB := Aside0.mk (below_then HB.out HB.out.size hb)
  clear hb
  rcases Decidable.em (t = 0) with h | h
  · skip
    subst h
    go_wp2_with fail
    refine (HA.out _ H_m.out).mono ?_
    rintro e w4 ⟨rfl, hb⟩
    replace H_rows := Aside0.mk (H_rows.out.below hb)
    replace H_own := Aside0.mk (H_own.out.below hb)
    replace H_cm := Aside0.mk (H_cm.out.below hb)
    replace H_m := Aside0.mk (H_m.out.below hb)
    replace H_ky0 := Aside0.mk (cell_on H_ky0.out hb)
    replace H_ky1 := Aside0.mk (cell_on H_ky1.out hb)
    replace H_ky2 := Aside0.mk (cell_on H_ky2.out hb)
    replace H_ky3 := Aside0.mk (cell_on H_ky3.out hb)
    replace H_rs0 := Aside0.mk (cell_on H_rs0.out hb)
    replace H_zrs0 := Aside0.mk (frz_on H_zrs0.out hb)
    replace H_rs1 := Aside0.mk (cell_on H_rs1.out hb)
    replace H_zrs1 := Aside0.mk (frz_on H_zrs1.out hb)
    replace HB := Aside0.mk (below_then HB.out HB.out.size hb)
    clear hb
    cases qa with
    | false =>
      have hhb := H_rs0.out.2
      have x_rs0 := H_rs0.out.1
      have x_rs1 := H_rs1.out.1
      have x_zrs0 := H_zrs0.out.1
      have x_zrs1 := H_zrs1.out.1
      go_wp2
      have hts := two_set H_rs0.out.1 H_rs1.out.1 (.int .i64 0) (.int .i64 0)
      refine bodyPost_ret (results_fin _ _ (w.heap.size + 1) (.int .i64 0) (.int .i64 0) _ _ rfl rfl rfl hts.1 hts.2.1) rfl ?_
      exact ⟨ret_fin (by rw [HF.out]; simp), (HB.out.setCell (Nat.le_add_right _ _) _).setCell (Nat.le_add_right _ _) _⟩
    | true =>
      go_wp2_with fail
      refine (HS.out _ H_m.out).mono ?_
      rintro e w5 ⟨rfl, hb⟩
      replace H_rows := Aside0.mk (H_rows.out.below hb)
      replace H_own := Aside0.mk (H_own.out.below hb)
      replace H_cm := Aside0.mk (H_cm.out.below hb)
      replace H_m := Aside0.mk (H_m.out.below hb)
      replace H_ky0 := Aside0.mk (cell_on H_ky0.out hb)
      replace H_ky1 := Aside0.mk (cell_on H_ky1.out hb)
      replace H_ky2 := Aside0.mk (cell_on H_ky2.out hb)
      replace H_ky3 := Aside0.mk (cell_on H_ky3.out hb)
      replace H_rs0 := Aside0.mk (cell_on H_rs0.out hb)
      replace H_zrs0 := Aside0.mk (frz_on H_zrs0.out hb)
      replace H_rs1 := Aside0.mk (cell_on H_rs1.out hb)
      replace H_zrs1 := Aside0.mk (frz_on H_zrs1.out hb)
      replace HB := Aside0.mk (below_then HB.out HB.out.size hb)
      clear hb
      have hhb := H_rs0.out.2
      have x_rs0 := H_rs0.out.1
      have x_rs1 := H_rs1.out.1
      have x_zrs0 := H_zrs0.out.1
      have x_zrs1 := H_zrs1.out.1
      go_upto_region 7 with fail
      clear x_rs0 x_rs1 x_zrs0 x_zrs1
      obtain ⟨w6, hW⟩ : ∃ W_, W_ = (w5.setCell ⟨w.heap.size + 1, 0, none⟩ (.int .i64 row)).setCell ⟨w.heap.size + 1, 1, none⟩ (.int .i64 sm) := ⟨_, rfl⟩
      rw [← hW]
      have hts := two_set H_rs0.out.1 H_rs1.out.1 (.int .i64 row) (.int .i64 sm)
      rw [← hW] at hts
      have hsz : w6.heap.size = w5.heap.size := by rw [hW]; simp [World.setCell]
      have hb2 : Below w.heap.size w w6 := by rw [hW]; exact (HB.out.setCell (Nat.le_add_right _ _) _).setCell (Nat.le_add_right _ _) _
      replace H_ky1 := Aside0.mk (And.intro ((hts.2.2.2 _ 1 (by omega)).trans H_ky1.out.1) (show w.heap.size < w6.heap.size by rw [hsz]; exact H_ky1.out.2))
      replace H_ky2 := Aside0.mk (And.intro ((hts.2.2.2 _ 2 (by omega)).trans H_ky2.out.1) (show w.heap.size < w6.heap.size by rw [hsz]; exact H_ky2.out.2))
      replace H_ky3 := Aside0.mk (And.intro ((hts.2.2.2 _ 3 (by omega)).trans H_ky3.out.1) (show w.heap.size < w6.heap.size by rw [hsz]; exact H_ky3.out.2))
      replace H_rs0 := Aside0.mk (And.intro hts.1 (show w.heap.size + 1 < w6.heap.size by rw [hsz]; exact H_rs0.out.2))
      replace H_zrs0 := Aside0.mk (And.intro ((hts.2.2.1 0).trans H_zrs0.out.1) (show w.heap.size + 1 < w6.heap.size by rw [hsz]; exact H_zrs0.out.2))
      replace H_rs1 := Aside0.mk (And.intro hts.2.1 (show w.heap.size + 1 < w6.heap.size by rw [hsz]; exact H_rs1.out.2))
      replace H_zrs1 := Aside0.mk (And.intro ((hts.2.2.1 1).trans H_zrs1.out.1) (show w.heap.size + 1 < w6.heap.size by rw [hsz]; exact H_zrs1.out.2))
      replace HB := Aside0.mk hb2
      replace H_rows := Aside0.mk (HG.out.1.below hb2)
      replace H_own := Aside0.mk (HG.out.2.1.below hb2)
      replace H_cm := Aside0.mk (HG.out.2.2.below hb2)
      clear H_ky0 H_m hW hts hsz hb2 hhb
      rcases Decidable.em (u = 0) with hu | hu
      · skip
        subst hu
        cases b with
        | false =>
          have x_ky1 := H_ky1.out.1
          have x_ky2 := H_ky2.out.1
          have x_ky3 := H_ky3.out.1
          have x_rs0 := H_rs0.out.1
          have x_rs1 := H_rs1.out.1
          go_wp2_with fail
          clear x_ky1 x_ky2 x_ky3 x_rs0 x_rs1
          refine (HFT.out _ H_rows.out H_own.out H_cm.out).mono ?_
          rintro e w7 ⟨rfl, hb⟩
          replace H_rows := Aside0.mk (H_rows.out.below hb)
          replace H_own := Aside0.mk (H_own.out.below hb)
          replace H_cm := Aside0.mk (H_cm.out.below hb)
          replace H_ky1 := Aside0.mk (cell_on H_ky1.out hb)
          replace H_ky2 := Aside0.mk (cell_on H_ky2.out hb)
          replace H_ky3 := Aside0.mk (cell_on H_ky3.out hb)
          replace H_rs0 := Aside0.mk (cell_on H_rs0.out hb)
          replace H_zrs0 := Aside0.mk (frz_on H_zrs0.out hb)
          replace H_rs1 := Aside0.mk (cell_on H_rs1.out hb)
          replace H_zrs1 := Aside0.mk (frz_on H_zrs1.out hb)
          replace HB := Aside0.mk (below_then HB.out HB.out.size hb)
          clear hb
          have hhb := H_rs0.out.2
          have x_rs0 := H_rs0.out.1
          have x_rs1 := H_rs1.out.1
          have x_zrs0 := H_zrs0.out.1
          have x_zrs1 := H_zrs1.out.1
          go_wp2
          have hts := two_set H_rs0.out.1 H_rs1.out.1 (.int .i64 0) (.int .i64 0)
          refine bodyPost_ret (results_fin _ _ (w.heap.size + 1) (.int .i64 0) (.int .i64 0) _ _ rfl rfl rfl hts.1 hts.2.1) rfl ?_
          exact ⟨ret_fin (by rw [HF.out]; simp), (HB.out.setCell (Nat.le_add_right _ _) _).setCell (Nat.le_add_right _ _) _⟩
        | true =>
          have x_ky1 := H_ky1.out.1
          have x_ky2 := H_ky2.out.1
          have x_ky3 := H_ky3.out.1
          have x_rs0 := H_rs0.out.1
          have x_rs1 := H_rs1.out.1
          go_wp2_with fail
          clear x_ky1 x_ky2 x_ky3 x_rs0 x_rs1
          refine (HFT.out _ H_rows.out H_own.out H_cm.out).mono ?_
          rintro e w7 ⟨rfl, hb⟩
          replace H_rows := Aside0.mk (H_rows.out.below hb)
          replace H_own := Aside0.mk (H_own.out.below hb)
          replace H_cm := Aside0.mk (H_cm.out.below hb)
          replace H_ky1 := Aside0.mk (cell_on H_ky1.out hb)
          replace H_ky2 := Aside0.mk (cell_on H_ky2.out hb)
          replace H_ky3 := Aside0.mk (cell_on H_ky3.out hb)
          replace H_rs0 := Aside0.mk (cell_on H_rs0.out hb)
          replace H_zrs0 := Aside0.mk (frz_on H_zrs0.out hb)
          replace H_rs1 := Aside0.mk (cell_on H_rs1.out hb)
          replace H_zrs1 := Aside0.mk (frz_on H_zrs1.out hb)
          replace HB := Aside0.mk (below_then HB.out HB.out.size hb)
          clear hb
          have hhb := H_rs0.out.2
          have x_rs0 := H_rs0.out.1
          have x_rs1 := H_rs1.out.1
          have x_zrs0 := H_zrs0.out.1
          have x_zrs1 := H_zrs1.out.1
          go_wp2
          have hts := two_set H_rs0.out.1 H_rs1.out.1 (.int .i64 row) (.int .i64 sm)
          refine bodyPost_ret (results_fin _ _ (w.heap.size + 1) (.int .i64 row) (.int .i64 sm) _ _ rfl rfl rfl hts.1 hts.2.1) rfl ?_
          exact ⟨ret_fin (by rw [HF.out]; simp), (HB.out.setCell (Nat.le_add_right _ _) _).setCell (Nat.le_add_right _ _) _⟩
      · skip
        have q1 : (u == 0) = false := beq_eq_false_iff_ne.mpr hu
        have q2 : (u != 0) = true := bne_iff_ne.mpr hu
        have HU := Aside0.mk hu
        have x_ky1 := H_ky1.out.1
        have x_ky2 := H_ky2.out.1
        have x_ky3 := H_ky3.out.1
        have x_rs0 := H_rs0.out.1
        have x_rs1 := H_rs1.out.1
        go_wp2_with fail
        clear x_ky1 x_ky2 x_ky3 x_rs0 x_rs1
        refine (HFT.out _ H_rows.out H_own.out H_cm.out).mono ?_
        rintro e w7 ⟨rfl, hb⟩
        replace H_rows := Aside0.mk (H_rows.out.below hb)
        replace H_own := Aside0.mk (H_own.out.below hb)
        replace H_cm := Aside0.mk (H_cm.out.below hb)
        replace H_ky1 := Aside0.mk (cell_on H_ky1.out hb)
        replace H_ky2 := Aside0.mk (cell_on H_ky2.out hb)
        replace H_ky3 := Aside0.mk (cell_on H_ky3.out hb)
        replace H_rs0 := Aside0.mk (cell_on H_rs0.out hb)
        replace H_zrs0 := Aside0.mk (frz_on H_zrs0.out hb)
        replace H_rs1 := Aside0.mk (cell_on H_rs1.out hb)
        replace H_zrs1 := Aside0.mk (frz_on H_zrs1.out hb)
        replace HB := Aside0.mk (below_then HB.out HB.out.size hb)
        clear hb
        have hhb := H_rs0.out.2
        have x_rs0 := H_rs0.out.1
        have x_rs1 := H_rs1.out.1
        have x_zrs0 := H_zrs0.out.1
        have x_zrs1 := H_zrs1.out.1
        go_wp2
        have hts := two_set H_rs0.out.1 H_rs1.out.1 (.int .i64 0) (.int .i64 0)
        refine bodyPost_ret (results_fin _ _ (w.heap.size + 1) (.int .i64 0) (.int .i64 0) _ _ rfl rfl rfl hts.1 hts.2.1) rfl ?_
        exact ⟨ret_fin (by rw [HF.out]; simp [HU.out]), (HB.out.setCell (Nat.le_add_right _ _) _).setCell (Nat.le_add_right _ _) _⟩
  · skip
    have q1 : (t == 0) = false := beq_eq_false_iff_ne.mpr h
    have q2 : (t != 0) = true := bne_iff_ne.mpr h
    have HU := Aside0.mk h
    have hhb := H_rs0.out.2
    have x_rs0 := H_rs0.out.1
    have x_rs1 := H_rs1.out.1
    have x_zrs0 := H_zrs0.out.1
    have x_zrs1 := H_zrs1.out.1
    go_wp2
    have hts := two_set H_rs0.out.1 H_rs1.out.1 (.int .i64 0) (.int .i64 0)
    refine bodyPost_ret (results_fin _ _ (w.heap.size + 1) (.int .i64 0) (.int .i64 0) _ _ rfl rfl rfl hts.1 hts.2.1) rfl ?_
    exact ⟨ret_fin (by rw [HF.out]; simp [HU.out]), (HB.out.setCell (Nat.le_add_right _ _) _).setCell (Nat.le_add_right _ _) _⟩
end Go.Proofs.Ytdbamhckgaoibaa.P
