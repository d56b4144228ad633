/- A part of the proof of RebuildHidden: The calls of signatorylaw40.RebuildHidden come to what their functions in Lean say. -/
import Derived.Test.YtdbamhckgaoibaaZRH7
namespace Go.Proofs.Ytdbamhckgaoibaa.P
open Go.RowKit Go.Proofs.YtdbamhckgaoibaaW.PrintWords Go.Proofs.YtdbamhckgaoibaaW.PrintLast Go.Proofs.YtdbamhckgaoibaaW.PrintMore
attribute [local go_sem] max2_int min2_int max_two min_two max_three min_three max_four min_four
set_option linter.unusedVariables false
set_option linter.unusedSimpArgs false
mutual
def signatorylaw40_RebuildHidden.j0 : Nat → Int → List Int → List Int → List Int → List Int → Bool → List (List Int) → List Int → Option (Bool)
 | 0, _, _, _, _, _, _, _, _ => none
 | k + 1, x1, x2, x3, x4, x5, x73, x909000, x909001 => if x73 = true then (some true) else ((rebuild_Plan.f x909000 x909001 x1 x2).bind fun bt916 => (if bt916.2.2 = 0 then (signatorylaw40_RebuildHidden.j1 k x2 x3 x4 x5 bt916.1 bt916.2.2 (!bt916.2.1)) else (signatorylaw40_RebuildHidden.j1 k x2 x3 x4 x5 bt916.1 bt916.2.2 true)))
def signatorylaw40_RebuildHidden.j1 : Nat → List Int → List Int → List Int → List Int → List Int → Int → Bool → Option (Bool)
 | 0, _, _, _, _, _, _, _ => none
 | k + 1, x2, x3, x4, x5, x13, x15, x87 => if x87 = true then (some (x15 == 0)) else (if (x13.length : Int) = (x2.length : Int) then (signatorylaw40_RebuildHidden.l0 k x2 x3 x4 x5 x13 0 0 (x2.length : Int) 0) else (none))
def signatorylaw40_RebuildHidden.l0 : Nat → List Int → List Int → List Int → List Int → List Int → Int → Int → Int → Int → Option (Bool)
 | 0, _, _, _, _, _, _, _, _, _ => none
 | k + 1, x2, x3, x4, x5, x13, x16, x17, x96, x97 => if x97 < x96 then (if 0 ≤ x97 then (if x97 < (x13.length : Int) then ((signatoryref40_Number.f (rd x13 x97)).bind fun t922 => (if t922 = true then (if x97 < (x3.length : Int) then (if x97 < (x4.length : Int) then (signatorylaw40_RebuildHidden.l0 k x2 x3 x4 x5 x13 (Int.tmod (wrap64 (x16 + (wrap64 ((rd x13 x97) * (rd x3 x97))))) 1073741789) (Int.tmod (wrap64 (x17 + (wrap64 ((rd x13 x97) * (rd x4 x97))))) 1073741789) x96 (wrap64 (x97 + 1))) else (none)) else (none)) else (none))) else (none)) else (none)) else (if x16 = x17 then ((signatorylaw40_masked.f k (x2.length : Int) x5).bind fun t927 => (signatorylaw40_RebuildHidden.l1 k x3 x4 x13 t927 0 x2 (x2.length : Int) 0)) else (some true))
def signatorylaw40_RebuildHidden.l1 : Nat → List Int → List Int → List Int → List Int → Int → List Int → Int → Int → Option (Bool)
 | 0, _, _, _, _, _, _, _, _ => none
 | k + 1, x3, x4, x13, x19, x20, x138, x139, x140 => if x140 < x139 then (if 0 ≤ x140 then (if x140 < (x138.length : Int) then (if x140 < (x13.length : Int) then (if x140 < (x3.length : Int) then (if x140 ≤ (wrap64 (x140 + 1)) then (if (wrap64 (x140 + 1)) ≤ (x19.length : Int) then ((rebuild_Part.f (rd x13 x140) (rd x138 x140) (rd x3 x140) ((x19.take ((wrap64 (x140 + 1)) : Int).toNat).drop (x140 : Int).toNat)).bind fun bt937 => (if bt937.2 = 0 then ((signatoryref40_Number.f bt937.1).bind fun t939 => (if t939 = true then (if x140 < (x4.length : Int) then ((rebuild_Part.f (rd x13 x140) (rd x138 x140) (rd x4 x140) (([Int.tmod (wrap64 ((wrap64 (bt937.1 - (Int.tmod (wrap64 ((rd x13 x140) * (rd x4 x140))) 1073741789))) + 1073741789)) 1073741789] : List Int))).bind fun bt947 => (if bt947.2 = 0 then (if bt947.1 = bt937.1 then (signatorylaw40_RebuildHidden.l1 k x3 x4 x13 x19 (Int.tmod (wrap64 (x20 + (Int.tmod (wrap64 ((wrap64 (bt937.1 - (Int.tmod (wrap64 ((rd x13 x140) * (rd x4 x140))) 1073741789))) + 1073741789)) 1073741789))) 1073741789) x138 x139 (wrap64 (x140 + 1))) else (none)) else (none))) else (none)) else (none))) else (none))) else (none)) else (none)) else (none)) else (none)) else (none)) else (none)) else (some (x20 == 0))
end
def signatorylaw40_RebuildHidden.f (k : Nat) (l0_0 : List (List Int)) (l0_1 : List Int) (a1 : Int) (l2 : List Int) (l3 : List Int) (l4 : List Int) (l5 : List Int) : Option (Bool) := (signatorylaw40_sane.f).bind fun t909 => (if t909 = true then ((signatorylaw40_few.f k l0_0 l0_1).bind fun t910 => (if t910 = true then ((signatoryref23_Check.f k l0_0 l0_1).bind fun t911 => (if t911 = 0 then ((signatoryref40_Rows.f k l0_0 l0_1 a1 l2).bind fun t912 => (if t912 = true then (if (l3.length : Int) = (l2.length : Int) then (if (l4.length : Int) = (l2.length : Int) then ((signatoryref40_Numbers.f k l3).bind fun t913 => (if t913 = true then ((signatoryref40_Numbers.f k l4).bind fun t914 => (if t914 = true then ((signatoryref40_Numbers.f k l5).bind fun t915 => (signatorylaw40_RebuildHidden.j0 k a1 l2 l3 l4 l5 (!t915) l0_0 l0_1)) else (signatorylaw40_RebuildHidden.j0 k a1 l2 l3 l4 l5 true l0_0 l0_1))) else (signatorylaw40_RebuildHidden.j0 k a1 l2 l3 l4 l5 true l0_0 l0_1))) else (signatorylaw40_RebuildHidden.j0 k a1 l2 l3 l4 l5 true l0_0 l0_1)) else (signatorylaw40_RebuildHidden.j0 k a1 l2 l3 l4 l5 true l0_0 l0_1)) else (signatorylaw40_RebuildHidden.j0 k a1 l2 l3 l4 l5 true l0_0 l0_1))) else (signatorylaw40_RebuildHidden.j0 k a1 l2 l3 l4 l5 true l0_0 l0_1))) else (signatorylaw40_RebuildHidden.j0 k a1 l2 l3 l4 l5 true l0_0 l0_1))) else (none))
def signatorylaw40_RebuildHidden.T16 : Bool × List (List Nat × List Nat) := (true, [([], []), ([], []), ([], []), ([1, 2], [1, 2]), ([3], [3]), ([], []), ([], []), ([5, 6], [5, 6]), ([7], [7]), ([4, 8], [4, 8]), ([0, 9], [0, 9]), ([10], [10]), ([], []), ([], []), ([], []), ([13, 14], [13, 14]), ([15], [15]), ([], []), ([], []), ([17, 18], [17, 18]), ([19], [19]), ([16, 20], [16, 20]), ([12, 21], [12, 21]), ([22], [22]), ([11, 0, 1, 2, 3, 4, 5, 6, 7, 8, 9, 10, 11], [0, 11]), ([23, 24, 0, 1, 2, 3, 4, 5, 6, 7, 8, 9, 10, 11, 12, 13, 14, 15, 16, 17, 18, 19, 20, 21, 22, 23, 24], [12, 23])])
def signatorylaw40_RebuildHidden.B16 : List Nat := [0, 0, 0, 6, 14, 0, 0, 96, 224, 510, 1023, 2047, 0, 0, 0, 24576, 57344, 0, 0, 393216, 917504, 2088960, 4190208, 8384512, 4095, 33554431]
theorem signatorylaw40_RebuildHidden.tab16 : rtab .any (opsOf Try.f11 16) = signatorylaw40_RebuildHidden.T16 := by kernel_rfl
theorem signatorylaw40_RebuildHidden.bits16 : waitsOk signatorylaw40_RebuildHidden.T16.2 signatorylaw40_RebuildHidden.B16 = true := by kernel_rfl
def signatorylaw40_RebuildHidden.T24 : Bool × List (List Nat × List Nat) := (true, [([], []), ([], []), ([0, 1], [0, 1]), ([2], [2]), ([], []), ([], []), ([], []), ([5, 6], [5, 6]), ([7], [7]), ([4, 8], [4, 8]), ([], []), ([], []), ([], []), ([12], [12]), ([10, 11, 13], [10, 11, 13]), ([3, 9, 14], [3, 9, 14]), ([15], [15]), ([16], [16]), ([16], [16]), ([17, 15, 0, 1, 2, 3, 4, 5, 6, 7, 8, 9, 10, 11, 12, 13, 14, 15, 16, 17], [17]), ([18, 19, 0, 1, 2, 3, 4, 5, 6, 7, 8, 9, 10, 11, 12, 13, 14, 15, 16, 17, 18, 19], [18])])
def signatorylaw40_RebuildHidden.B24 : List Nat := [0, 0, 3, 7, 0, 0, 0, 96, 224, 496, 0, 0, 0, 4096, 15360, 32767, 65535, 131071, 131071, 262143, 1048575]
theorem signatorylaw40_RebuildHidden.tab24 : rtab .any (opsOf Try.f11 24) = signatorylaw40_RebuildHidden.T24 := by kernel_rfl
theorem signatorylaw40_RebuildHidden.bits24 : waitsOk signatorylaw40_RebuildHidden.T24.2 signatorylaw40_RebuildHidden.B24 = true := by kernel_rfl
def signatorylaw40_RebuildHidden.T27 : Bool × List (List Nat × List Nat) := (true, [([], []), ([], []), ([], []), ([1, 2], [1, 2]), ([3], [3]), ([], []), ([], []), ([5, 6], [5, 6]), ([7], [7]), ([4, 8], [4, 8]), ([9], [9]), ([0, 10], [0, 10]), ([11], [11]), ([12], [12]), ([13, 0, 1, 2, 3, 4, 5, 6, 7, 8, 9, 10, 11, 12, 13], [13])])
def signatorylaw40_RebuildHidden.B27 : List Nat := [0, 0, 0, 6, 14, 0, 0, 96, 224, 510, 1022, 2047, 4095, 8191, 16383]
theorem signatorylaw40_RebuildHidden.tab27 : rtab .any (opsOf Try.f11 27) = signatorylaw40_RebuildHidden.T27 := by kernel_rfl
theorem signatorylaw40_RebuildHidden.bits27 : waitsOk signatorylaw40_RebuildHidden.T27.2 signatorylaw40_RebuildHidden.B27 = true := by kernel_rfl
def signatorylaw40_RebuildHidden.T28 : Bool × List (List Nat × List Nat) := (true, [([], []), ([], []), ([0, 1], [0, 1]), ([2], [2]), ([], []), ([], []), ([], []), ([5, 6], [5, 6]), ([7], [7]), ([4, 8], [4, 8]), ([], []), ([10], [10]), ([3, 9, 11], [3, 9, 11]), ([12], [12]), ([13], [13]), ([13], [13]), ([14, 12, 0, 1, 2, 3, 4, 5, 6, 7, 8, 9, 10, 11, 12, 13, 14], [14]), ([15, 16, 0, 1, 2, 3, 4, 5, 6, 7, 8, 9, 10, 11, 12, 13, 14, 15, 16], [15])])
def signatorylaw40_RebuildHidden.B28 : List Nat := [0, 0, 3, 7, 0, 0, 0, 96, 224, 496, 0, 1024, 4095, 8191, 16383, 16383, 32767, 131071]
theorem signatorylaw40_RebuildHidden.tab28 : rtab .any (opsOf Try.f11 28) = signatorylaw40_RebuildHidden.T28 := by kernel_rfl
theorem signatorylaw40_RebuildHidden.bits28 : waitsOk signatorylaw40_RebuildHidden.T28.2 signatorylaw40_RebuildHidden.B28 = true := by kernel_rfl
set_option maxHeartbeats 8000000 in
set_option maxRecDepth 100000 in
theorem signatorylaw40_RebuildHidden.calls (k : Nat) (A0_0 : Option Addr) (c0_0 : Nat) (l0_0 : List (List Int)) (A0_1 : Option Addr) (c0_1 : Nat) (l0_1 : List Int) (a1 : Int) (A2 : Option Addr) (c2 : Nat) (l2 : List Int) (A3 : Option Addr) (c3 : Nat) (l3 : List Int) (A4 : Option Addr) (c4 : Nat) (l4 : List Int) (A5 : Option Addr) (c5 : Nat) (l5 : List Int) (r : Bool) (w : World) (hr0_0 : Kd.C (Kd.slice 3 (Kd.int .i64)) w A0_0 l0_0.length l0_0) (hc0_0 : l0_0.length ≤ c0_0) (hr0_1 : Kd.C (Kd.int .i64) w A0_1 l0_1.length l0_1) (hc0_1 : l0_1.length ≤ c0_1) (hr2 : Kd.C (Kd.int .i64) w A2 l2.length l2) (hc2 : l2.length ≤ c2) (hr3 : Kd.C (Kd.int .i64) w A3 l3.length l3) (hc3 : l3.length ≤ c3) (hr4 : Kd.C (Kd.int .i64) w A4 l4.length l4) (hc4 : l4.length ≤ c4) (hr5 : Kd.C (Kd.int .i64) w A5 l5.length l5) (hc5 : l5.length ≤ c5) (h : signatorylaw40_RebuildHidden.f k l0_0 l0_1 a1 l2 l3 l4 l5 = some r) :
  Calls Try.prog 11 #[.agg #[.slice A0_0 l0_0.length c0_0, .slice A0_1 l0_1.length c0_1], .int .i64 a1, .slice A2 l2.length c2, .slice A3 l3.length c3, .slice A4 l4.length c4, .slice A5 l5.length c5] w fun e w' => e = .returned (.bool r) ∧ Below w.heap.size w w' := by
 have hu25 := Try.underlying25
 have hu38 := Try.underlying38
 have HR0_0 := Aside0.mk hr0_0
 have HC0_0 := Aside0.mk hc0_0
 clear hr0_0 hc0_0
 have HR0_1 := Aside0.mk hr0_1
 have HC0_1 := Aside0.mk hc0_1
 clear hr0_1 hc0_1
 have HR2 := Aside0.mk hr2
 have HC2 := Aside0.mk hc2
 clear hr2 hc2
 have HR3 := Aside0.mk hr3
 have HC3 := Aside0.mk hc3
 clear hr3 hc3
 have HR4 := Aside0.mk hr4
 have HC4 := Aside0.mk hc4
 clear hr4 hc4
 have HR5 := Aside0.mk hr5
 have HC5 := Aside0.mk hc5
 clear hr5 hc5
 have HB := Aside0.mk (Below.refl w.heap.size w)
 have H : ((signatorylaw40_sane.f).bind fun t909 => (if t909 = true then ((signatorylaw40_few.f k l0_0 l0_1).bind fun t910 => (if t910 = true then ((signatoryref23_Check.f k l0_0 l0_1).bind fun t911 => (if t911 = 0 then ((signatoryref40_Rows.f k l0_0 l0_1 a1 l2).bind fun t912 => (if t912 = true then (if (l3.length : Int) = (l2.length : Int) then (if (l4.length : Int) = (l2.length : Int) then ((signatoryref40_Numbers.f k l3).bind fun t913 => (if t913 = true then ((signatoryref40_Numbers.f k l4).bind fun t914 => (if t914 = true then ((signatoryref40_Numbers.f k l5).bind fun t915 => (signatorylaw40_RebuildHidden.j0 k a1 l2 l3 l4 l5 (!t915) l0_0 l0_1)) else (signatorylaw40_RebuildHidden.j0 k a1 l2 l3 l4 l5 true l0_0 l0_1))) else (signatorylaw40_RebuildHidden.j0 k a1 l2 l3 l4 l5 true l0_0 l0_1))) else (signatorylaw40_RebuildHidden.j0 k a1 l2 l3 l4 l5 true l0_0 l0_1)) else (signatorylaw40_RebuildHidden.j0 k a1 l2 l3 l4 l5 true l0_0 l0_1)) else (signatorylaw40_RebuildHidden.j0 k a1 l2 l3 l4 l5 true l0_0 l0_1))) else (signatorylaw40_RebuildHidden.j0 k a1 l2 l3 l4 l5 true l0_0 l0_1))) else (signatorylaw40_RebuildHidden.j0 k a1 l2 l3 l4 l5 true l0_0 l0_1))) else (none))) = some r := h
 clear h
 replace H := Option.bind_eq_some_iff.mp H
 obtain ⟨t909, A70, H⟩ := H
 replace H : (if t909 = true then ((signatorylaw40_few.f k l0_0 l0_1).bind fun t910 => (if t910 = true then ((signatoryref23_Check.f k l0_0 l0_1).bind fun t911 => (if t911 = 0 then ((signatoryref40_Rows.f k l0_0 l0_1 a1 l2).bind fun t912 => (if t912 = true then (if (l3.length : Int) = (l2.length : Int) then (if (l4.length : Int) = (l2.length : Int) then ((signatoryref40_Numbers.f k l3).bind fun t913 => (if t913 = true then ((signatoryref40_Numbers.f k l4).bind fun t914 => (if t914 = true then ((signatoryref40_Numbers.f k l5).bind fun t915 => (signatorylaw40_RebuildHidden.j0 k a1 l2 l3 l4 l5 (!t915) l0_0 l0_1)) else (signatorylaw40_RebuildHidden.j0 k a1 l2 l3 l4 l5 true l0_0 l0_1))) else (signatorylaw40_RebuildHidden.j0 k a1 l2 l3 l4 l5 true l0_0 l0_1))) else (signatorylaw40_RebuildHidden.j0 k a1 l2 l3 l4 l5 true l0_0 l0_1)) else (signatorylaw40_RebuildHidden.j0 k a1 l2 l3 l4 l5 true l0_0 l0_1)) else (signatorylaw40_RebuildHidden.j0 k a1 l2 l3 l4 l5 true l0_0 l0_1))) else (signatorylaw40_RebuildHidden.j0 k a1 l2 l3 l4 l5 true l0_0 l0_1))) else (signatorylaw40_RebuildHidden.j0 k a1 l2 l3 l4 l5 true l0_0 l0_1))) else (none)) = some r := H
 have A7 := Aside0.mk A70
 clear A70
 by_cases c8 : t909 = true
 ·subst c8
  have H1 : ((signatorylaw40_few.f k l0_0 l0_1).bind fun t910 => (if t910 = true then ((signatoryref23_Check.f k l0_0 l0_1).bind fun t911 => (if t911 = 0 then ((signatoryref40_Rows.f k l0_0 l0_1 a1 l2).bind fun t912 => (if t912 = true then (if (l3.length : Int) = (l2.length : Int) then (if (l4.length : Int) = (l2.length : Int) then ((signatoryref40_Numbers.f k l3).bind fun t913 => (if t913 = true then ((signatoryref40_Numbers.f k l4).bind fun t914 => (if t914 = true then ((signatoryref40_Numbers.f k l5).bind fun t915 => (signatorylaw40_RebuildHidden.j0 k a1 l2 l3 l4 l5 (!t915) l0_0 l0_1)) else (signatorylaw40_RebuildHidden.j0 k a1 l2 l3 l4 l5 true l0_0 l0_1))) else (signatorylaw40_RebuildHidden.j0 k a1 l2 l3 l4 l5 true l0_0 l0_1))) else (signatorylaw40_RebuildHidden.j0 k a1 l2 l3 l4 l5 true l0_0 l0_1)) else (signatorylaw40_RebuildHidden.j0 k a1 l2 l3 l4 l5 true l0_0 l0_1)) else (signatorylaw40_RebuildHidden.j0 k a1 l2 l3 l4 l5 true l0_0 l0_1))) else (signatorylaw40_RebuildHidden.j0 k a1 l2 l3 l4 l5 true l0_0 l0_1))) else (signatorylaw40_RebuildHidden.j0 k a1 l2 l3 l4 l5 true l0_0 l0_1))) = some r := by rw [if_pos rfl] at H; exact H
  clear H
  have H := H1
  clear H1
  have HC9 := Aside0.mk H
  clear H
  go_enter Try.func11, Try.ntmps11
  go_upto_region 3 with (first | ((with_reducible refine gate_dst (N := 6) rfl ?_); (try (refine gate_guard (by rfl) ?_; dsimp only)); refine box_event ?hg (N := 6) ?hd (cs := #[.slice A0_0 l0_0.length c0_0, .slice A0_1 l0_1.length c0_1]) (t := 25) ?hr ?_; (case hd => rfl); (case hg => rfl); (case hr => first | (go_simp; done) | (go_simp; rfl)); intro gb908 hg w10 hbox hb; have n0_ := Aside0.mk (below_step (by repeat (first | (with_reducible first | exact HB.out | apply below_alloc | apply pw_below_drewN | apply below_drew1) | exact HB.out)) hb); have n1_ := Aside0.mk (hbox); have n2_ := Aside0.mk ((by rw [hg]; exact (below_size (by repeat (first | (with_reducible first | exact HB.out | apply below_alloc | apply pw_below_drewN | apply below_drew1) | exact HB.out))) : w.heap.size ≤ gb908)); have n3_ := Aside0.mk ((by rw [hg]; exact (below_size (by repeat (first | (with_reducible first | exact HB.out | apply below_alloc | apply pw_below_drewN | apply below_drew1) | exact HB.out))) : w.heap.size ≤ gb908)); clear HB; have HB := n0_; have BK908 := n1_; have GW908 := n2_; have GE908 := n3_; clear n0_ n1_ n2_ n3_; clear hb hbox hg) | ((with_reducible refine gate_callee (f := 38) rfl ?_); refine goesL_ (some 28) rfl rfl Try.func38 (by kernel_rfl) rfl #[] rfl (by (try simp only [List.map_toArray, List.map_cons, List.map_nil]); first | done | rfl | (simp only [List.length_drop, List.length_take]; rfl)) ?_; (with_reducible refine (signatorylaw40_sane.calls  true _ A7.out).mono ?_); rintro e w11 ⟨rfl, hb⟩; refine ⟨_, rfl, ?_⟩; have n0_ := Aside0.mk (blk_below (g := gb908) (o := .cells #[.slice A0_0 l0_0.length c0_0, .slice A0_1 l0_1.length c0_1] 25 (0, 0)) (by (with_reducible repeat (first | refine blk_drewN ?_ _ | refine blk_drew ?_ | refine blk_alloc ?_ _)); exact BK908.out) hb); have n1_ := Aside0.mk (below_step (by repeat (first | (with_reducible first | exact HB.out | apply below_alloc | apply pw_below_drewN | apply below_drew1 | refine below_set ?_ GE908.out) | exact HB.out)) hb); clear BK908; clear HB; have BK908 := n0_; have HB := n1_; clear n0_ n1_; (try clear hb); (try clear hb2); (try clear hk); (try clear hi)))
  (try simp only [Act.put, List.setIfInBounds_toArray, List.set_cons_zero, List.set_cons_succ])
  go_cut [73] (fun v73 wc => ∃ (kq : Nat) (x73_8 : Bool), v73 = .bool x73_8 ∧ Aside0 (signatorylaw40_RebuildHidden.j0 kq a1 l2 l3 l4 l5 x73_8 l0_0 l0_1 = some r) ∧ Aside0 (kq ≤ k) ∧ Aside0 (wc.heap[gb908]? = some (.cells #[(.slice A0_0 l0_0.length c0_0), (.slice A0_1 l0_1.length c0_1)] 25 (0, 0))) ∧ Aside0 (Below w.heap.size w wc))
  case first =>
   have H := HC9.out
   clear HC9
   replace H := Option.bind_eq_some_iff.mp H
   obtain ⟨t910, A120, H⟩ := H
   replace H : (if t910 = true then ((signatoryref23_Check.f k l0_0 l0_1).bind fun t911 => (if t911 = 0 then ((signatoryref40_Rows.f k l0_0 l0_1 a1 l2).bind fun t912 => (if t912 = true then (if (l3.length : Int) = (l2.length : Int) then (if (l4.length : Int) = (l2.length : Int) then ((signatoryref40_Numbers.f k l3).bind fun t913 => (if t913 = true then ((signatoryref40_Numbers.f k l4).bind fun t914 => (if t914 = true then ((signatoryref40_Numbers.f k l5).bind fun t915 => (signatorylaw40_RebuildHidden.j0 k a1 l2 l3 l4 l5 (!t915) l0_0 l0_1)) else (signatorylaw40_RebuildHidden.j0 k a1 l2 l3 l4 l5 true l0_0 l0_1))) else (signatorylaw40_RebuildHidden.j0 k a1 l2 l3 l4 l5 true l0_0 l0_1))) else (signatorylaw40_RebuildHidden.j0 k a1 l2 l3 l4 l5 true l0_0 l0_1)) else (signatorylaw40_RebuildHidden.j0 k a1 l2 l3 l4 l5 true l0_0 l0_1)) else (signatorylaw40_RebuildHidden.j0 k a1 l2 l3 l4 l5 true l0_0 l0_1))) else (signatorylaw40_RebuildHidden.j0 k a1 l2 l3 l4 l5 true l0_0 l0_1))) else (signatorylaw40_RebuildHidden.j0 k a1 l2 l3 l4 l5 true l0_0 l0_1)) = some r := H
   have A12 := Aside0.mk A120
   clear A120
   by_cases c13 : t910 = true
   ·subst c13
    have H1 : ((signatoryref23_Check.f k l0_0 l0_1).bind fun t911 => (if t911 = 0 then ((signatoryref40_Rows.f k l0_0 l0_1 a1 l2).bind fun t912 => (if t912 = true then (if (l3.length : Int) = (l2.length : Int) then (if (l4.length : Int) = (l2.length : Int) then ((signatoryref40_Numbers.f k l3).bind fun t913 => (if t913 = true then ((signatoryref40_Numbers.f k l4).bind fun t914 => (if t914 = true then ((signatoryref40_Numbers.f k l5).bind fun t915 => (signatorylaw40_RebuildHidden.j0 k a1 l2 l3 l4 l5 (!t915) l0_0 l0_1)) else (signatorylaw40_RebuildHidden.j0 k a1 l2 l3 l4 l5 true l0_0 l0_1))) else (signatorylaw40_RebuildHidden.j0 k a1 l2 l3 l4 l5 true l0_0 l0_1))) else (signatorylaw40_RebuildHidden.j0 k a1 l2 l3 l4 l5 true l0_0 l0_1)) else (signatorylaw40_RebuildHidden.j0 k a1 l2 l3 l4 l5 true l0_0 l0_1)) else (signatorylaw40_RebuildHidden.j0 k a1 l2 l3 l4 l5 true l0_0 l0_1))) else (signatorylaw40_RebuildHidden.j0 k a1 l2 l3 l4 l5 true l0_0 l0_1))) = some r := by rw [if_pos rfl] at H; exact H
    clear H
    have H := H1
    clear H1
    replace H := Option.bind_eq_some_iff.mp H
    obtain ⟨t911, A140, H⟩ := H
    replace H : (if t911 = 0 then ((signatoryref40_Rows.f k l0_0 l0_1 a1 l2).bind fun t912 => (if t912 = true then (if (l3.length : Int) = (l2.length : Int) then (if (l4.length : Int) = (l2.length : Int) then ((signatoryref40_Numbers.f k l3).bind fun t913 => (if t913 = true then ((signatoryref40_Numbers.f k l4).bind fun t914 => (if t914 = true then ((signatoryref40_Numbers.f k l5).bind fun t915 => (signatorylaw40_RebuildHidden.j0 k a1 l2 l3 l4 l5 (!t915) l0_0 l0_1)) else (signatorylaw40_RebuildHidden.j0 k a1 l2 l3 l4 l5 true l0_0 l0_1))) else (signatorylaw40_RebuildHidden.j0 k a1 l2 l3 l4 l5 true l0_0 l0_1))) else (signatorylaw40_RebuildHidden.j0 k a1 l2 l3 l4 l5 true l0_0 l0_1)) else (signatorylaw40_RebuildHidden.j0 k a1 l2 l3 l4 l5 true l0_0 l0_1)) else (signatorylaw40_RebuildHidden.j0 k a1 l2 l3 l4 l5 true l0_0 l0_1))) else (signatorylaw40_RebuildHidden.j0 k a1 l2 l3 l4 l5 true l0_0 l0_1)) = some r := H
    have A14 := Aside0.mk A140
    clear A140
    by_cases c15 : t911 = 0
    ·rw [if_pos c15] at H
     have c15b0 : (t911 == 0) = true := beq_iff_eq.mpr c15
     have c15b1 : (t911 != 0) = false := bne_eq_false_iff_eq.mpr c15
     clear c15
     (first | rw [c15b0] | (simp only [i64_w, i32_w]; rw [c15b0]) | skip)
     replace H := Option.bind_eq_some_iff.mp H
     obtain ⟨t912, A160, H⟩ := H
     replace H : (if t912 = true then (if (l3.length : Int) = (l2.length : Int) then (if (l4.length : Int) = (l2.length : Int) then ((signatoryref40_Numbers.f k l3).bind fun t913 => (if t913 = true then ((signatoryref40_Numbers.f k l4).bind fun t914 => (if t914 = true then ((signatoryref40_Numbers.f k l5).bind fun t915 => (signatorylaw40_RebuildHidden.j0 k a1 l2 l3 l4 l5 (!t915) l0_0 l0_1)) else (signatorylaw40_RebuildHidden.j0 k a1 l2 l3 l4 l5 true l0_0 l0_1))) else (signatorylaw40_RebuildHidden.j0 k a1 l2 l3 l4 l5 true l0_0 l0_1))) else (signatorylaw40_RebuildHidden.j0 k a1 l2 l3 l4 l5 true l0_0 l0_1)) else (signatorylaw40_RebuildHidden.j0 k a1 l2 l3 l4 l5 true l0_0 l0_1)) else (signatorylaw40_RebuildHidden.j0 k a1 l2 l3 l4 l5 true l0_0 l0_1)) = some r := H
     have A16 := Aside0.mk A160
     clear A160
     by_cases c17 : t912 = true
     ·subst c17
      have H1 : (if (l3.length : Int) = (l2.length : Int) then (if (l4.length : Int) = (l2.length : Int) then ((signatoryref40_Numbers.f k l3).bind fun t913 => (if t913 = true then ((signatoryref40_Numbers.f k l4).bind fun t914 => (if t914 = true then ((signatoryref40_Numbers.f k l5).bind fun t915 => (signatorylaw40_RebuildHidden.j0 k a1 l2 l3 l4 l5 (!t915) l0_0 l0_1)) else (signatorylaw40_RebuildHidden.j0 k a1 l2 l3 l4 l5 true l0_0 l0_1))) else (signatorylaw40_RebuildHidden.j0 k a1 l2 l3 l4 l5 true l0_0 l0_1))) else (signatorylaw40_RebuildHidden.j0 k a1 l2 l3 l4 l5 true l0_0 l0_1)) else (signatorylaw40_RebuildHidden.j0 k a1 l2 l3 l4 l5 true l0_0 l0_1)) = some r := by rw [if_pos rfl] at H; exact H
      clear H
      have H := H1
      clear H1
      by_cases c18 : (l3.length : Int) = (l2.length : Int)
      ·rw [if_pos c18] at H
       have c18b0 : ((l3.length : Int) == (l2.length : Int)) = true := beq_iff_eq.mpr c18
       have c18b1 : ((l3.length : Int) != (l2.length : Int)) = false := bne_eq_false_iff_eq.mpr c18
       have c18b2 : (l3.length == l2.length) = true := by first | simpa using c18 | (simp at c18 ⊢; omega)
       clear c18
       by_cases c19 : (l4.length : Int) = (l2.length : Int)
       ·rw [if_pos c19] at H
        have c19b0 : ((l4.length : Int) == (l2.length : Int)) = true := beq_iff_eq.mpr c19
        have c19b1 : ((l4.length : Int) != (l2.length : Int)) = false := bne_eq_false_iff_eq.mpr c19
        have c19b2 : (l4.length == l2.length) = true := by first | simpa using c19 | (simp at c19 ⊢; omega)
        clear c19
        replace H := Option.bind_eq_some_iff.mp H
        obtain ⟨t913, A200, H⟩ := H
        replace H : (if t913 = true then ((signatoryref40_Numbers.f k l4).bind fun t914 => (if t914 = true then ((signatoryref40_Numbers.f k l5).bind fun t915 => (signatorylaw40_RebuildHidden.j0 k a1 l2 l3 l4 l5 (!t915) l0_0 l0_1)) else (signatorylaw40_RebuildHidden.j0 k a1 l2 l3 l4 l5 true l0_0 l0_1))) else (signatorylaw40_RebuildHidden.j0 k a1 l2 l3 l4 l5 true l0_0 l0_1)) = some r := H
        have A20 := Aside0.mk A200
        clear A200
        by_cases c21 : t913 = true
        ·subst c21
         have H1 : ((signatoryref40_Numbers.f k l4).bind fun t914 => (if t914 = true then ((signatoryref40_Numbers.f k l5).bind fun t915 => (signatorylaw40_RebuildHidden.j0 k a1 l2 l3 l4 l5 (!t915) l0_0 l0_1)) else (signatorylaw40_RebuildHidden.j0 k a1 l2 l3 l4 l5 true l0_0 l0_1))) = some r := by rw [if_pos rfl] at H; exact H
         clear H
         have H := H1
         clear H1
         replace H := Option.bind_eq_some_iff.mp H
         obtain ⟨t914, A220, H⟩ := H
         replace H : (if t914 = true then ((signatoryref40_Numbers.f k l5).bind fun t915 => (signatorylaw40_RebuildHidden.j0 k a1 l2 l3 l4 l5 (!t915) l0_0 l0_1)) else (signatorylaw40_RebuildHidden.j0 k a1 l2 l3 l4 l5 true l0_0 l0_1)) = some r := H
         have A22 := Aside0.mk A220
         clear A220
         by_cases c23 : t914 = true
         ·subst c23
          have H1 : ((signatoryref40_Numbers.f k l5).bind fun t915 => (signatorylaw40_RebuildHidden.j0 k a1 l2 l3 l4 l5 (!t915) l0_0 l0_1)) = some r := by rw [if_pos rfl] at H; exact H
          clear H
          have H := H1
          clear H1
          replace H := Option.bind_eq_some_iff.mp H
          obtain ⟨t915, A240, H⟩ := H
          replace H : (signatorylaw40_RebuildHidden.j0 k a1 l2 l3 l4 l5 (!t915) l0_0 l0_1) = some r := H
          have A24 := Aside0.mk A240
          clear A240
          have H' := Aside0.mk H
          clear H
          have hcz25_0 : w11.cell? ⟨gb908, 0, none⟩ = some (.slice A0_0 l0_0.length c0_0) := (blk_cell BK908.out 0).trans rfl
          have hcz25_1 : w11.cell? ⟨gb908, 1, none⟩ = some (.slice A0_1 l0_1.length c0_1) := (blk_cell BK908.out 1).trans rfl
          have hfz25_0 := blk_frozen BK908.out 0
          have hfz25_1 := blk_frozen BK908.out 1
          go_wp2_with (first | ((with_reducible refine gate_callee (f := 39) rfl ?_); refine goesL_ (some 31) rfl rfl Try.func39 (by kernel_rfl) rfl #[.agg #[.slice A0_0 l0_0.length c0_0, .slice A0_1 l0_1.length c0_1]] rfl (by (try simp only [List.map_toArray, List.map_cons, List.map_nil]); first | done | rfl | (simp only [List.length_drop, List.length_take]; rfl)) ?_; (with_reducible refine (signatorylaw40_few.calls k _ _ l0_0 _ _ l0_1 true _ ?side1 ?side2 ?side3 ?side4 A12.out).mono ?_); (case side1 => repeat (first | exact (Kd.C_below HR0_0.out HB.out) | (with_reducible refine Kd.C_alloc ?_ _) | (with_reducible refine Kd.C_drewN ?_ _) | (with_reducible refine Kd.C_drew ?_))); (case side2 => exact HC0_0.out); (case side3 => repeat (first | exact (Kd.C_below HR0_1.out HB.out) | (with_reducible refine Kd.C_alloc ?_ _) | (with_reducible refine Kd.C_drewN ?_ _) | (with_reducible refine Kd.C_drew ?_))); (case side4 => exact HC0_1.out); rintro e w26 ⟨rfl, hb⟩; refine ⟨_, rfl, ?_⟩; have n0_ := Aside0.mk (blk_below (g := gb908) (o := .cells #[.slice A0_0 l0_0.length c0_0, .slice A0_1 l0_1.length c0_1] 25 (0, 0)) (by (with_reducible repeat (first | refine blk_drewN ?_ _ | refine blk_drew ?_ | refine blk_alloc ?_ _)); exact BK908.out) hb); have n1_ := Aside0.mk (below_step (by repeat (first | (with_reducible first | exact HB.out | apply below_alloc | apply pw_below_drewN | apply below_drew1 | refine below_set ?_ GE908.out) | exact HB.out)) hb); clear BK908; clear HB; have BK908 := n0_; have HB := n1_; clear n0_ n1_; (try clear hb); (try clear hb2); (try clear hk); (try clear hi); have hcz27_0 : w26.cell? ⟨gb908, 0, none⟩ = some (.slice A0_0 l0_0.length c0_0) := (blk_cell BK908.out 0).trans rfl; have hcz27_1 : w26.cell? ⟨gb908, 1, none⟩ = some (.slice A0_1 l0_1.length c0_1) := (blk_cell BK908.out 1).trans rfl; have hfz27_0 := blk_frozen BK908.out 0; have hfz27_1 := blk_frozen BK908.out 1) | (go_at_call 58; (with_reducible refine (signatoryref23_Check.calls k _ _ l0_0 _ _ l0_1 t911 _ ?side1 ?side2 ?side3 ?side4 A14.out).mono ?_); (case side1 => repeat (first | exact (Kd.C_below HR0_0.out HB.out) | (with_reducible refine Kd.C_alloc ?_ _) | (with_reducible refine Kd.C_drewN ?_ _) | (with_reducible refine Kd.C_drew ?_))); (case side2 => exact HC0_0.out); (case side3 => repeat (first | exact (Kd.C_below HR0_1.out HB.out) | (with_reducible refine Kd.C_alloc ?_ _) | (with_reducible refine Kd.C_drewN ?_ _) | (with_reducible refine Kd.C_drew ?_))); (case side4 => exact HC0_1.out); rintro e w28 ⟨rfl, hb⟩; have n0_ := Aside0.mk (blk_below (g := gb908) (o := .cells #[.slice A0_0 l0_0.length c0_0, .slice A0_1 l0_1.length c0_1] 25 (0, 0)) (by (with_reducible repeat (first | refine blk_drewN ?_ _ | refine blk_drew ?_ | refine blk_alloc ?_ _)); exact BK908.out) hb); have n1_ := Aside0.mk (below_step (by repeat (first | (with_reducible first | exact HB.out | apply below_alloc | apply pw_below_drewN | apply below_drew1 | refine below_set ?_ GE908.out) | exact HB.out)) hb); clear BK908; clear HB; have BK908 := n0_; have HB := n1_; clear n0_ n1_; (try clear hb); (try clear hb2); (try clear hk); (try clear hi); have hcz29_0 : w28.cell? ⟨gb908, 0, none⟩ = some (.slice A0_0 l0_0.length c0_0) := (blk_cell BK908.out 0).trans rfl; have hcz29_1 : w28.cell? ⟨gb908, 1, none⟩ = some (.slice A0_1 l0_1.length c0_1) := (blk_cell BK908.out 1).trans rfl; have hfz29_0 := blk_frozen BK908.out 0; have hfz29_1 := blk_frozen BK908.out 1) | (go_at_call 59; (with_reducible refine (signatoryref40_Rows.calls k _ _ l0_0 _ _ l0_1 a1 _ _ l2 true _ ?side1 ?side2 ?side3 ?side4 ?side5 ?side6 A16.out).mono ?_); (case side1 => repeat (first | exact (Kd.C_below HR0_0.out HB.out) | (with_reducible refine Kd.C_alloc ?_ _) | (with_reducible refine Kd.C_drewN ?_ _) | (with_reducible refine Kd.C_drew ?_))); (case side2 => exact HC0_0.out); (case side3 => repeat (first | exact (Kd.C_below HR0_1.out HB.out) | (with_reducible refine Kd.C_alloc ?_ _) | (with_reducible refine Kd.C_drewN ?_ _) | (with_reducible refine Kd.C_drew ?_))); (case side4 => exact HC0_1.out); (case side5 => repeat (first | exact (Kd.C_below HR2.out HB.out) | (with_reducible refine Kd.C_alloc ?_ _) | (with_reducible refine Kd.C_drewN ?_ _) | (with_reducible refine Kd.C_drew ?_))); (case side6 => exact HC2.out); rintro e w30 ⟨rfl, hb⟩; have n0_ := Aside0.mk (blk_below (g := gb908) (o := .cells #[.slice A0_0 l0_0.length c0_0, .slice A0_1 l0_1.length c0_1] 25 (0, 0)) (by (with_reducible repeat (first | refine blk_drewN ?_ _ | refine blk_drew ?_ | refine blk_alloc ?_ _)); exact BK908.out) hb); have n1_ := Aside0.mk (below_step (by repeat (first | (with_reducible first | exact HB.out | apply below_alloc | apply pw_below_drewN | apply below_drew1 | refine below_set ?_ GE908.out) | exact HB.out)) hb); clear BK908; clear HB; have BK908 := n0_; have HB := n1_; clear n0_ n1_; (try clear hb); (try clear hb2); (try clear hk); (try clear hi)) | (go_at_call 55; (with_reducible refine (signatoryref40_Numbers.calls k _ _ l3 true _ ?side1 ?side2 A20.out).mono ?_); (case side1 => repeat (first | exact (Kd.C_below HR3.out HB.out) | (with_reducible refine Kd.C_alloc ?_ _) | (with_reducible refine Kd.C_drewN ?_ _) | (with_reducible refine Kd.C_drew ?_))); (case side2 => exact HC3.out); rintro e w' ⟨rfl, ⟨nd, rfl⟩⟩) | (go_at_call 55; (with_reducible refine (signatoryref40_Numbers.calls k _ _ l4 true _ ?side1 ?side2 A22.out).mono ?_); (case side1 => repeat (first | exact (Kd.C_below HR4.out (by repeat (first | (with_reducible first | exact HB.out | apply below_alloc | apply pw_below_drewN | apply below_drew1 | refine below_set ?_ GE908.out) | exact HB.out))) | (with_reducible refine Kd.C_alloc ?_ _) | (with_reducible refine Kd.C_drewN ?_ _) | (with_reducible refine Kd.C_drew ?_))); (case side2 => exact HC4.out); rintro e w' ⟨rfl, ⟨nd, rfl⟩⟩) | (go_at_call 55; (with_reducible refine (signatoryref40_Numbers.calls k _ _ l5 t915 _ ?side1 ?side2 A24.out).mono ?_); (case side1 => repeat (first | exact (Kd.C_below HR5.out (by repeat (first | (with_reducible first | exact HB.out | apply below_alloc | apply pw_below_drewN | apply below_drew1 | refine below_set ?_ GE908.out) | exact HB.out))) | (with_reducible refine Kd.C_alloc ?_ _) | (with_reducible refine Kd.C_drewN ?_ _) | (with_reducible refine Kd.C_drew ?_))); (case side2 => exact HC5.out); rintro e w' ⟨rfl, ⟨nd, rfl⟩⟩))
          go_meet
          case rel => exact ⟨_, (!t915), (by first | rfl | (simp; done) | (simp [*]; done)), H', ⟨by first | omega | exact Nat.le_refl _⟩, ⟨by (with_reducible repeat (first | refine blk_drewN ?_ _ | refine blk_drew ?_ | refine blk_alloc ?_ _)); exact BK908.out⟩, ⟨by repeat (first | (with_reducible first | exact HB.out | apply below_alloc | apply pw_below_drewN | apply below_drew1 | refine below_set ?_ GE908.out) | exact HB.out)⟩⟩
         ·replace c23 := Bool.eq_false_iff.mpr c23
          subst c23
          have H1 : (signatorylaw40_RebuildHidden.j0 k a1 l2 l3 l4 l5 true l0_0 l0_1) = some r := by rw [if_neg (show ¬ (false = true) by decide)] at H; exact H
          clear H
          have H := H1
          clear H1
          have H' := Aside0.mk H
          clear H
          have hcz31_0 : w11.cell? ⟨gb908, 0, none⟩ = some (.slice A0_0 l0_0.length c0_0) := (blk_cell BK908.out 0).trans rfl
          have hcz31_1 : w11.cell? ⟨gb908, 1, none⟩ = some (.slice A0_1 l0_1.length c0_1) := (blk_cell BK908.out 1).trans rfl
          have hfz31_0 := blk_frozen BK908.out 0
          have hfz31_1 := blk_frozen BK908.out 1
          go_wp2_with (first | ((with_reducible refine gate_callee (f := 39) rfl ?_); refine goesL_ (some 31) rfl rfl Try.func39 (by kernel_rfl) rfl #[.agg #[.slice A0_0 l0_0.length c0_0, .slice A0_1 l0_1.length c0_1]] rfl (by (try simp only [List.map_toArray, List.map_cons, List.map_nil]); first | done | rfl | (simp only [List.length_drop, List.length_take]; rfl)) ?_; (with_reducible refine (signatorylaw40_few.calls k _ _ l0_0 _ _ l0_1 true _ ?side1 ?side2 ?side3 ?side4 A12.out).mono ?_); (case side1 => repeat (first | exact (Kd.C_below HR0_0.out HB.out) | (with_reducible refine Kd.C_alloc ?_ _) | (with_reducible refine Kd.C_drewN ?_ _) | (with_reducible refine Kd.C_drew ?_))); (case side2 => exact HC0_0.out); (case side3 => repeat (first | exact (Kd.C_below HR0_1.out HB.out) | (with_reducible refine Kd.C_alloc ?_ _) | (with_reducible refine Kd.C_drewN ?_ _) | (with_reducible refine Kd.C_drew ?_))); (case side4 => exact HC0_1.out); rintro e w32 ⟨rfl, hb⟩; refine ⟨_, rfl, ?_⟩; have n0_ := Aside0.mk (blk_below (g := gb908) (o := .cells #[.slice A0_0 l0_0.length c0_0, .slice A0_1 l0_1.length c0_1] 25 (0, 0)) (by (with_reducible repeat (first | refine blk_drewN ?_ _ | refine blk_drew ?_ | refine blk_alloc ?_ _)); exact BK908.out) hb); have n1_ := Aside0.mk (below_step (by repeat (first | (with_reducible first | exact HB.out | apply below_alloc | apply pw_below_drewN | apply below_drew1 | refine below_set ?_ GE908.out) | exact HB.out)) hb); clear BK908; clear HB; have BK908 := n0_; have HB := n1_; clear n0_ n1_; (try clear hb); (try clear hb2); (try clear hk); (try clear hi); have hcz33_0 : w32.cell? ⟨gb908, 0, none⟩ = some (.slice A0_0 l0_0.length c0_0) := (blk_cell BK908.out 0).trans rfl; have hcz33_1 : w32.cell? ⟨gb908, 1, none⟩ = some (.slice A0_1 l0_1.length c0_1) := (blk_cell BK908.out 1).trans rfl; have hfz33_0 := blk_frozen BK908.out 0; have hfz33_1 := blk_frozen BK908.out 1) | (go_at_call 58; (with_reducible refine (signatoryref23_Check.calls k _ _ l0_0 _ _ l0_1 t911 _ ?side1 ?side2 ?side3 ?side4 A14.out).mono ?_); (case side1 => repeat (first | exact (Kd.C_below HR0_0.out HB.out) | (with_reducible refine Kd.C_alloc ?_ _) | (with_reducible refine Kd.C_drewN ?_ _) | (with_reducible refine Kd.C_drew ?_))); (case side2 => exact HC0_0.out); (case side3 => repeat (first | exact (Kd.C_below HR0_1.out HB.out) | (with_reducible refine Kd.C_alloc ?_ _) | (with_reducible refine Kd.C_drewN ?_ _) | (with_reducible refine Kd.C_drew ?_))); (case side4 => exact HC0_1.out); rintro e w34 ⟨rfl, hb⟩; have n0_ := Aside0.mk (blk_below (g := gb908) (o := .cells #[.slice A0_0 l0_0.length c0_0, .slice A0_1 l0_1.length c0_1] 25 (0, 0)) (by (with_reducible repeat (first | refine blk_drewN ?_ _ | refine blk_drew ?_ | refine blk_alloc ?_ _)); exact BK908.out) hb); have n1_ := Aside0.mk (below_step (by repeat (first | (with_reducible first | exact HB.out | apply below_alloc | apply pw_below_drewN | apply below_drew1 | refine below_set ?_ GE908.out) | exact HB.out)) hb); clear BK908; clear HB; have BK908 := n0_; have HB := n1_; clear n0_ n1_; (try clear hb); (try clear hb2); (try clear hk); (try clear hi); have hcz35_0 : w34.cell? ⟨gb908, 0, none⟩ = some (.slice A0_0 l0_0.length c0_0) := (blk_cell BK908.out 0).trans rfl; have hcz35_1 : w34.cell? ⟨gb908, 1, none⟩ = some (.slice A0_1 l0_1.length c0_1) := (blk_cell BK908.out 1).trans rfl; have hfz35_0 := blk_frozen BK908.out 0; have hfz35_1 := blk_frozen BK908.out 1) | (go_at_call 59; (with_reducible refine (signatoryref40_Rows.calls k _ _ l0_0 _ _ l0_1 a1 _ _ l2 true _ ?side1 ?side2 ?side3 ?side4 ?side5 ?side6 A16.out).mono ?_); (case side1 => repeat (first | exact (Kd.C_below HR0_0.out HB.out) | (with_reducible refine Kd.C_alloc ?_ _) | (with_reducible refine Kd.C_drewN ?_ _) | (with_reducible refine Kd.C_drew ?_))); (case side2 => exact HC0_0.out); (case side3 => repeat (first | exact (Kd.C_below HR0_1.out HB.out) | (with_reducible refine Kd.C_alloc ?_ _) | (with_reducible refine Kd.C_drewN ?_ _) | (with_reducible refine Kd.C_drew ?_))); (case side4 => exact HC0_1.out); (case side5 => repeat (first | exact (Kd.C_below HR2.out HB.out) | (with_reducible refine Kd.C_alloc ?_ _) | (with_reducible refine Kd.C_drewN ?_ _) | (with_reducible refine Kd.C_drew ?_))); (case side6 => exact HC2.out); rintro e w36 ⟨rfl, hb⟩; have n0_ := Aside0.mk (blk_below (g := gb908) (o := .cells #[.slice A0_0 l0_0.length c0_0, .slice A0_1 l0_1.length c0_1] 25 (0, 0)) (by (with_reducible repeat (first | refine blk_drewN ?_ _ | refine blk_drew ?_ | refine blk_alloc ?_ _)); exact BK908.out) hb); have n1_ := Aside0.mk (below_step (by repeat (first | (with_reducible first | exact HB.out | apply below_alloc | apply pw_below_drewN | apply below_drew1 | refine below_set ?_ GE908.out) | exact HB.out)) hb); clear BK908; clear HB; have BK908 := n0_; have HB := n1_; clear n0_ n1_; (try clear hb); (try clear hb2); (try clear hk); (try clear hi)) | (go_at_call 55; (with_reducible refine (signatoryref40_Numbers.calls k _ _ l3 true _ ?side1 ?side2 A20.out).mono ?_); (case side1 => repeat (first | exact (Kd.C_below HR3.out HB.out) | (with_reducible refine Kd.C_alloc ?_ _) | (with_reducible refine Kd.C_drewN ?_ _) | (with_reducible refine Kd.C_drew ?_))); (case side2 => exact HC3.out); rintro e w' ⟨rfl, ⟨nd, rfl⟩⟩) | (go_at_call 55; (with_reducible refine (signatoryref40_Numbers.calls k _ _ l4 false _ ?side1 ?side2 A22.out).mono ?_); (case side1 => repeat (first | exact (Kd.C_below HR4.out (by repeat (first | (with_reducible first | exact HB.out | apply below_alloc | apply pw_below_drewN | apply below_drew1 | refine below_set ?_ GE908.out) | exact HB.out))) | (with_reducible refine Kd.C_alloc ?_ _) | (with_reducible refine Kd.C_drewN ?_ _) | (with_reducible refine Kd.C_drew ?_))); (case side2 => exact HC4.out); rintro e w' ⟨rfl, ⟨nd, rfl⟩⟩))
          go_meet
          case rel => exact ⟨_, (true), (by first | rfl | (simp; done) | (simp [*]; done)), H', ⟨by first | omega | exact Nat.le_refl _⟩, ⟨by (with_reducible repeat (first | refine blk_drewN ?_ _ | refine blk_drew ?_ | refine blk_alloc ?_ _)); exact BK908.out⟩, ⟨by repeat (first | (with_reducible first | exact HB.out | apply below_alloc | apply pw_below_drewN | apply below_drew1 | refine below_set ?_ GE908.out) | exact HB.out)⟩⟩
        ·replace c21 := Bool.eq_false_iff.mpr c21
         subst c21
         have H1 : (signatorylaw40_RebuildHidden.j0 k a1 l2 l3 l4 l5 true l0_0 l0_1) = some r := by rw [if_neg (show ¬ (false = true) by decide)] at H; exact H
         clear H
         have H := H1
         clear H1
         have H' := Aside0.mk H
         clear H
         have hcz37_0 : w11.cell? ⟨gb908, 0, none⟩ = some (.slice A0_0 l0_0.length c0_0) := (blk_cell BK908.out 0).trans rfl
         have hcz37_1 : w11.cell? ⟨gb908, 1, none⟩ = some (.slice A0_1 l0_1.length c0_1) := (blk_cell BK908.out 1).trans rfl
         have hfz37_0 := blk_frozen BK908.out 0
         have hfz37_1 := blk_frozen BK908.out 1
         go_wp2_with (first | ((with_reducible refine gate_callee (f := 39) rfl ?_); refine goesL_ (some 31) rfl rfl Try.func39 (by kernel_rfl) rfl #[.agg #[.slice A0_0 l0_0.length c0_0, .slice A0_1 l0_1.length c0_1]] rfl (by (try simp only [List.map_toArray, List.map_cons, List.map_nil]); first | done | rfl | (simp only [List.length_drop, List.length_take]; rfl)) ?_; (with_reducible refine (signatorylaw40_few.calls k _ _ l0_0 _ _ l0_1 true _ ?side1 ?side2 ?side3 ?side4 A12.out).mono ?_); (case side1 => repeat (first | exact (Kd.C_below HR0_0.out HB.out) | (with_reducible refine Kd.C_alloc ?_ _) | (with_reducible refine Kd.C_drewN ?_ _) | (with_reducible refine Kd.C_drew ?_))); (case side2 => exact HC0_0.out); (case side3 => repeat (first | exact (Kd.C_below HR0_1.out HB.out) | (with_reducible refine Kd.C_alloc ?_ _) | (with_reducible refine Kd.C_drewN ?_ _) | (with_reducible refine Kd.C_drew ?_))); (case side4 => exact HC0_1.out); rintro e w38 ⟨rfl, hb⟩; refine ⟨_, rfl, ?_⟩; have n0_ := Aside0.mk (blk_below (g := gb908) (o := .cells #[.slice A0_0 l0_0.length c0_0, .slice A0_1 l0_1.length c0_1] 25 (0, 0)) (by (with_reducible repeat (first | refine blk_drewN ?_ _ | refine blk_drew ?_ | refine blk_alloc ?_ _)); exact BK908.out) hb); have n1_ := Aside0.mk (below_step (by repeat (first | (with_reducible first | exact HB.out | apply below_alloc | apply pw_below_drewN | apply below_drew1 | refine below_set ?_ GE908.out) | exact HB.out)) hb); clear BK908; clear HB; have BK908 := n0_; have HB := n1_; clear n0_ n1_; (try clear hb); (try clear hb2); (try clear hk); (try clear hi); have hcz39_0 : w38.cell? ⟨gb908, 0, none⟩ = some (.slice A0_0 l0_0.length c0_0) := (blk_cell BK908.out 0).trans rfl; have hcz39_1 : w38.cell? ⟨gb908, 1, none⟩ = some (.slice A0_1 l0_1.length c0_1) := (blk_cell BK908.out 1).trans rfl; have hfz39_0 := blk_frozen BK908.out 0; have hfz39_1 := blk_frozen BK908.out 1) | (go_at_call 58; (with_reducible refine (signatoryref23_Check.calls k _ _ l0_0 _ _ l0_1 t911 _ ?side1 ?side2 ?side3 ?side4 A14.out).mono ?_); (case side1 => repeat (first | exact (Kd.C_below HR0_0.out HB.out) | (with_reducible refine Kd.C_alloc ?_ _) | (with_reducible refine Kd.C_drewN ?_ _) | (with_reducible refine Kd.C_drew ?_))); (case side2 => exact HC0_0.out); (case side3 => repeat (first | exact (Kd.C_below HR0_1.out HB.out) | (with_reducible refine Kd.C_alloc ?_ _) | (with_reducible refine Kd.C_drewN ?_ _) | (with_reducible refine Kd.C_drew ?_))); (case side4 => exact HC0_1.out); rintro e w40 ⟨rfl, hb⟩; have n0_ := Aside0.mk (blk_below (g := gb908) (o := .cells #[.slice A0_0 l0_0.length c0_0, .slice A0_1 l0_1.length c0_1] 25 (0, 0)) (by (with_reducible repeat (first | refine blk_drewN ?_ _ | refine blk_drew ?_ | refine blk_alloc ?_ _)); exact BK908.out) hb); have n1_ := Aside0.mk (below_step (by repeat (first | (with_reducible first | exact HB.out | apply below_alloc | apply pw_below_drewN | apply below_drew1 | refine below_set ?_ GE908.out) | exact HB.out)) hb); clear BK908; clear HB; have BK908 := n0_; have HB := n1_; clear n0_ n1_; (try clear hb); (try clear hb2); (try clear hk); (try clear hi); have hcz41_0 : w40.cell? ⟨gb908, 0, none⟩ = some (.slice A0_0 l0_0.length c0_0) := (blk_cell BK908.out 0).trans rfl; have hcz41_1 : w40.cell? ⟨gb908, 1, none⟩ = some (.slice A0_1 l0_1.length c0_1) := (blk_cell BK908.out 1).trans rfl; have hfz41_0 := blk_frozen BK908.out 0; have hfz41_1 := blk_frozen BK908.out 1) | (go_at_call 59; (with_reducible refine (signatoryref40_Rows.calls k _ _ l0_0 _ _ l0_1 a1 _ _ l2 true _ ?side1 ?side2 ?side3 ?side4 ?side5 ?side6 A16.out).mono ?_); (case side1 => repeat (first | exact (Kd.C_below HR0_0.out HB.out) | (with_reducible refine Kd.C_alloc ?_ _) | (with_reducible refine Kd.C_drewN ?_ _) | (with_reducible refine Kd.C_drew ?_))); (case side2 => exact HC0_0.out); (case side3 => repeat (first | exact (Kd.C_below HR0_1.out HB.out) | (with_reducible refine Kd.C_alloc ?_ _) | (with_reducible refine Kd.C_drewN ?_ _) | (with_reducible refine Kd.C_drew ?_))); (case side4 => exact HC0_1.out); (case side5 => repeat (first | exact (Kd.C_below HR2.out HB.out) | (with_reducible refine Kd.C_alloc ?_ _) | (with_reducible refine Kd.C_drewN ?_ _) | (with_reducible refine Kd.C_drew ?_))); (case side6 => exact HC2.out); rintro e w42 ⟨rfl, hb⟩; have n0_ := Aside0.mk (blk_below (g := gb908) (o := .cells #[.slice A0_0 l0_0.length c0_0, .slice A0_1 l0_1.length c0_1] 25 (0, 0)) (by (with_reducible repeat (first | refine blk_drewN ?_ _ | refine blk_drew ?_ | refine blk_alloc ?_ _)); exact BK908.out) hb); have n1_ := Aside0.mk (below_step (by repeat (first | (with_reducible first | exact HB.out | apply below_alloc | apply pw_below_drewN | apply below_drew1 | refine below_set ?_ GE908.out) | exact HB.out)) hb); clear BK908; clear HB; have BK908 := n0_; have HB := n1_; clear n0_ n1_; (try clear hb); (try clear hb2); (try clear hk); (try clear hi)) | (go_at_call 55; (with_reducible refine (signatoryref40_Numbers.calls k _ _ l3 false _ ?side1 ?side2 A20.out).mono ?_); (case side1 => repeat (first | exact (Kd.C_below HR3.out HB.out) | (with_reducible refine Kd.C_alloc ?_ _) | (with_reducible refine Kd.C_drewN ?_ _) | (with_reducible refine Kd.C_drew ?_))); (case side2 => exact HC3.out); rintro e w' ⟨rfl, ⟨nd, rfl⟩⟩))
         go_meet
         case rel => exact ⟨_, (true), (by first | rfl | (simp; done) | (simp [*]; done)), H', ⟨by first | omega | exact Nat.le_refl _⟩, ⟨by (with_reducible repeat (first | refine blk_drewN ?_ _ | refine blk_drew ?_ | refine blk_alloc ?_ _)); exact BK908.out⟩, ⟨by repeat (first | (with_reducible first | exact HB.out | apply below_alloc | apply pw_below_drewN | apply below_drew1 | refine below_set ?_ GE908.out) | exact HB.out)⟩⟩
       ·rw [if_neg c19] at H
        have c19b0 : ((l4.length : Int) == (l2.length : Int)) = false := beq_eq_false_iff_ne.mpr c19
        have c19b1 : ((l4.length : Int) != (l2.length : Int)) = true := bne_iff_ne.mpr c19
        have c19b2 : (l4.length == l2.length) = false := by first | simpa using c19 | (simp at c19 ⊢; omega)
        have H' := Aside0.mk H
        clear H
        have hcz43_0 : w11.cell? ⟨gb908, 0, none⟩ = some (.slice A0_0 l0_0.length c0_0) := (blk_cell BK908.out 0).trans rfl
        have hcz43_1 : w11.cell? ⟨gb908, 1, none⟩ = some (.slice A0_1 l0_1.length c0_1) := (blk_cell BK908.out 1).trans rfl
        have hfz43_0 := blk_frozen BK908.out 0
        have hfz43_1 := blk_frozen BK908.out 1
        go_wp2_with (first | ((with_reducible refine gate_callee (f := 39) rfl ?_); refine goesL_ (some 31) rfl rfl Try.func39 (by kernel_rfl) rfl #[.agg #[.slice A0_0 l0_0.length c0_0, .slice A0_1 l0_1.length c0_1]] rfl (by (try simp only [List.map_toArray, List.map_cons, List.map_nil]); first | done | rfl | (simp only [List.length_drop, List.length_take]; rfl)) ?_; (with_reducible refine (signatorylaw40_few.calls k _ _ l0_0 _ _ l0_1 true _ ?side1 ?side2 ?side3 ?side4 A12.out).mono ?_); (case side1 => repeat (first | exact (Kd.C_below HR0_0.out HB.out) | (with_reducible refine Kd.C_alloc ?_ _) | (with_reducible refine Kd.C_drewN ?_ _) | (with_reducible refine Kd.C_drew ?_))); (case side2 => exact HC0_0.out); (case side3 => repeat (first | exact (Kd.C_below HR0_1.out HB.out) | (with_reducible refine Kd.C_alloc ?_ _) | (with_reducible refine Kd.C_drewN ?_ _) | (with_reducible refine Kd.C_drew ?_))); (case side4 => exact HC0_1.out); rintro e w44 ⟨rfl, hb⟩; refine ⟨_, rfl, ?_⟩; have n0_ := Aside0.mk (blk_below (g := gb908) (o := .cells #[.slice A0_0 l0_0.length c0_0, .slice A0_1 l0_1.length c0_1] 25 (0, 0)) (by (with_reducible repeat (first | refine blk_drewN ?_ _ | refine blk_drew ?_ | refine blk_alloc ?_ _)); exact BK908.out) hb); have n1_ := Aside0.mk (below_step (by repeat (first | (with_reducible first | exact HB.out | apply below_alloc | apply pw_below_drewN | apply below_drew1 | refine below_set ?_ GE908.out) | exact HB.out)) hb); clear BK908; clear HB; have BK908 := n0_; have HB := n1_; clear n0_ n1_; (try clear hb); (try clear hb2); (try clear hk); (try clear hi); have hcz45_0 : w44.cell? ⟨gb908, 0, none⟩ = some (.slice A0_0 l0_0.length c0_0) := (blk_cell BK908.out 0).trans rfl; have hcz45_1 : w44.cell? ⟨gb908, 1, none⟩ = some (.slice A0_1 l0_1.length c0_1) := (blk_cell BK908.out 1).trans rfl; have hfz45_0 := blk_frozen BK908.out 0; have hfz45_1 := blk_frozen BK908.out 1) | (go_at_call 58; (with_reducible refine (signatoryref23_Check.calls k _ _ l0_0 _ _ l0_1 t911 _ ?side1 ?side2 ?side3 ?side4 A14.out).mono ?_); (case side1 => repeat (first | exact (Kd.C_below HR0_0.out HB.out) | (with_reducible refine Kd.C_alloc ?_ _) | (with_reducible refine Kd.C_drewN ?_ _) | (with_reducible refine Kd.C_drew ?_))); (case side2 => exact HC0_0.out); (case side3 => repeat (first | exact (Kd.C_below HR0_1.out HB.out) | (with_reducible refine Kd.C_alloc ?_ _) | (with_reducible refine Kd.C_drewN ?_ _) | (with_reducible refine Kd.C_drew ?_))); (case side4 => exact HC0_1.out); rintro e w46 ⟨rfl, hb⟩; have n0_ := Aside0.mk (blk_below (g := gb908) (o := .cells #[.slice A0_0 l0_0.length c0_0, .slice A0_1 l0_1.length c0_1] 25 (0, 0)) (by (with_reducible repeat (first | refine blk_drewN ?_ _ | refine blk_drew ?_ | refine blk_alloc ?_ _)); exact BK908.out) hb); have n1_ := Aside0.mk (below_step (by repeat (first | (with_reducible first | exact HB.out | apply below_alloc | apply pw_below_drewN | apply below_drew1 | refine below_set ?_ GE908.out) | exact HB.out)) hb); clear BK908; clear HB; have BK908 := n0_; have HB := n1_; clear n0_ n1_; (try clear hb); (try clear hb2); (try clear hk); (try clear hi); have hcz47_0 : w46.cell? ⟨gb908, 0, none⟩ = some (.slice A0_0 l0_0.length c0_0) := (blk_cell BK908.out 0).trans rfl; have hcz47_1 : w46.cell? ⟨gb908, 1, none⟩ = some (.slice A0_1 l0_1.length c0_1) := (blk_cell BK908.out 1).trans rfl; have hfz47_0 := blk_frozen BK908.out 0; have hfz47_1 := blk_frozen BK908.out 1) | (go_at_call 59; (with_reducible refine (signatoryref40_Rows.calls k _ _ l0_0 _ _ l0_1 a1 _ _ l2 true _ ?side1 ?side2 ?side3 ?side4 ?side5 ?side6 A16.out).mono ?_); (case side1 => repeat (first | exact (Kd.C_below HR0_0.out HB.out) | (with_reducible refine Kd.C_alloc ?_ _) | (with_reducible refine Kd.C_drewN ?_ _) | (with_reducible refine Kd.C_drew ?_))); (case side2 => exact HC0_0.out); (case side3 => repeat (first | exact (Kd.C_below HR0_1.out HB.out) | (with_reducible refine Kd.C_alloc ?_ _) | (with_reducible refine Kd.C_drewN ?_ _) | (with_reducible refine Kd.C_drew ?_))); (case side4 => exact HC0_1.out); (case side5 => repeat (first | exact (Kd.C_below HR2.out HB.out) | (with_reducible refine Kd.C_alloc ?_ _) | (with_reducible refine Kd.C_drewN ?_ _) | (with_reducible refine Kd.C_drew ?_))); (case side6 => exact HC2.out); rintro e w48 ⟨rfl, hb⟩; have n0_ := Aside0.mk (blk_below (g := gb908) (o := .cells #[.slice A0_0 l0_0.length c0_0, .slice A0_1 l0_1.length c0_1] 25 (0, 0)) (by (with_reducible repeat (first | refine blk_drewN ?_ _ | refine blk_drew ?_ | refine blk_alloc ?_ _)); exact BK908.out) hb); have n1_ := Aside0.mk (below_step (by repeat (first | (with_reducible first | exact HB.out | apply below_alloc | apply pw_below_drewN | apply below_drew1 | refine below_set ?_ GE908.out) | exact HB.out)) hb); clear BK908; clear HB; have BK908 := n0_; have HB := n1_; clear n0_ n1_; (try clear hb); (try clear hb2); (try clear hk); (try clear hi)))
        go_meet
        case rel => exact ⟨_, (true), (by first | rfl | (simp; done) | (simp [*]; done)), H', ⟨by first | omega | exact Nat.le_refl _⟩, ⟨by (with_reducible repeat (first | refine blk_drewN ?_ _ | refine blk_drew ?_ | refine blk_alloc ?_ _)); exact BK908.out⟩, ⟨by repeat (first | (with_reducible first | exact HB.out | apply below_alloc | apply pw_below_drewN | apply below_drew1 | refine below_set ?_ GE908.out) | exact HB.out)⟩⟩
      ·rw [if_neg c18] at H
       have c18b0 : ((l3.length : Int) == (l2.length : Int)) = false := beq_eq_false_iff_ne.mpr c18
       have c18b1 : ((l3.length : Int) != (l2.length : Int)) = true := bne_iff_ne.mpr c18
       have c18b2 : (l3.length == l2.length) = false := by first | simpa using c18 | (simp at c18 ⊢; omega)
       have H' := Aside0.mk H
       clear H
       have hcz49_0 : w11.cell? ⟨gb908, 0, none⟩ = some (.slice A0_0 l0_0.length c0_0) := (blk_cell BK908.out 0).trans rfl
       have hcz49_1 : w11.cell? ⟨gb908, 1, none⟩ = some (.slice A0_1 l0_1.length c0_1) := (blk_cell BK908.out 1).trans rfl
       have hfz49_0 := blk_frozen BK908.out 0
       have hfz49_1 := blk_frozen BK908.out 1
       go_wp2_with (first | ((with_reducible refine gate_callee (f := 39) rfl ?_); refine goesL_ (some 31) rfl rfl Try.func39 (by kernel_rfl) rfl #[.agg #[.slice A0_0 l0_0.length c0_0, .slice A0_1 l0_1.length c0_1]] rfl (by (try simp only [List.map_toArray, List.map_cons, List.map_nil]); first | done | rfl | (simp only [List.length_drop, List.length_take]; rfl)) ?_; (with_reducible refine (signatorylaw40_few.calls k _ _ l0_0 _ _ l0_1 true _ ?side1 ?side2 ?side3 ?side4 A12.out).mono ?_); (case side1 => repeat (first | exact (Kd.C_below HR0_0.out HB.out) | (with_reducible refine Kd.C_alloc ?_ _) | (with_reducible refine Kd.C_drewN ?_ _) | (with_reducible refine Kd.C_drew ?_))); (case side2 => exact HC0_0.out); (case side3 => repeat (first | exact (Kd.C_below HR0_1.out HB.out) | (with_reducible refine Kd.C_alloc ?_ _) | (with_reducible refine Kd.C_drewN ?_ _) | (with_reducible refine Kd.C_drew ?_))); (case side4 => exact HC0_1.out); rintro e w50 ⟨rfl, hb⟩; refine ⟨_, rfl, ?_⟩; have n0_ := Aside0.mk (blk_below (g := gb908) (o := .cells #[.slice A0_0 l0_0.length c0_0, .slice A0_1 l0_1.length c0_1] 25 (0, 0)) (by (with_reducible repeat (first | refine blk_drewN ?_ _ | refine blk_drew ?_ | refine blk_alloc ?_ _)); exact BK908.out) hb); have n1_ := Aside0.mk (below_step (by repeat (first | (with_reducible first | exact HB.out | apply below_alloc | apply pw_below_drewN | apply below_drew1 | refine below_set ?_ GE908.out) | exact HB.out)) hb); clear BK908; clear HB; have BK908 := n0_; have HB := n1_; clear n0_ n1_; (try clear hb); (try clear hb2); (try clear hk); (try clear hi); have hcz51_0 : w50.cell? ⟨gb908, 0, none⟩ = some (.slice A0_0 l0_0.length c0_0) := (blk_cell BK908.out 0).trans rfl; have hcz51_1 : w50.cell? ⟨gb908, 1, none⟩ = some (.slice A0_1 l0_1.length c0_1) := (blk_cell BK908.out 1).trans rfl; have hfz51_0 := blk_frozen BK908.out 0; have hfz51_1 := blk_frozen BK908.out 1) | (go_at_call 58; (with_reducible refine (signatoryref23_Check.calls k _ _ l0_0 _ _ l0_1 t911 _ ?side1 ?side2 ?side3 ?side4 A14.out).mono ?_); (case side1 => repeat (first | exact (Kd.C_below HR0_0.out HB.out) | (with_reducible refine Kd.C_alloc ?_ _) | (with_reducible refine Kd.C_drewN ?_ _) | (with_reducible refine Kd.C_drew ?_))); (case side2 => exact HC0_0.out); (case side3 => repeat (first | exact (Kd.C_below HR0_1.out HB.out) | (with_reducible refine Kd.C_alloc ?_ _) | (with_reducible refine Kd.C_drewN ?_ _) | (with_reducible refine Kd.C_drew ?_))); (case side4 => exact HC0_1.out); rintro e w52 ⟨rfl, hb⟩; have n0_ := Aside0.mk (blk_below (g := gb908) (o := .cells #[.slice A0_0 l0_0.length c0_0, .slice A0_1 l0_1.length c0_1] 25 (0, 0)) (by (with_reducible repeat (first | refine blk_drewN ?_ _ | refine blk_drew ?_ | refine blk_alloc ?_ _)); exact BK908.out) hb); have n1_ := Aside0.mk (below_step (by repeat (first | (with_reducible first | exact HB.out | apply below_alloc | apply pw_below_drewN | apply below_drew1 | refine below_set ?_ GE908.out) | exact HB.out)) hb); clear BK908; clear HB; have BK908 := n0_; have HB := n1_; clear n0_ n1_; (try clear hb); (try clear hb2); (try clear hk); (try clear hi); have hcz53_0 : w52.cell? ⟨gb908, 0, none⟩ = some (.slice A0_0 l0_0.length c0_0) := (blk_cell BK908.out 0).trans rfl; have hcz53_1 : w52.cell? ⟨gb908, 1, none⟩ = some (.slice A0_1 l0_1.length c0_1) := (blk_cell BK908.out 1).trans rfl; have hfz53_0 := blk_frozen BK908.out 0; have hfz53_1 := blk_frozen BK908.out 1) | (go_at_call 59; (with_reducible refine (signatoryref40_Rows.calls k _ _ l0_0 _ _ l0_1 a1 _ _ l2 true _ ?side1 ?side2 ?side3 ?side4 ?side5 ?side6 A16.out).mono ?_); (case side1 => repeat (first | exact (Kd.C_below HR0_0.out HB.out) | (with_reducible refine Kd.C_alloc ?_ _) | (with_reducible refine Kd.C_drewN ?_ _) | (with_reducible refine Kd.C_drew ?_))); (case side2 => exact HC0_0.out); (case side3 => repeat (first | exact (Kd.C_below HR0_1.out HB.out) | (with_reducible refine Kd.C_alloc ?_ _) | (with_reducible refine Kd.C_drewN ?_ _) | (with_reducible refine Kd.C_drew ?_))); (case side4 => exact HC0_1.out); (case side5 => repeat (first | exact (Kd.C_below HR2.out HB.out) | (with_reducible refine Kd.C_alloc ?_ _) | (with_reducible refine Kd.C_drewN ?_ _) | (with_reducible refine Kd.C_drew ?_))); (case side6 => exact HC2.out); rintro e w54 ⟨rfl, hb⟩; have n0_ := Aside0.mk (blk_below (g := gb908) (o := .cells #[.slice A0_0 l0_0.length c0_0, .slice A0_1 l0_1.length c0_1] 25 (0, 0)) (by (with_reducible repeat (first | refine blk_drewN ?_ _ | refine blk_drew ?_ | refine blk_alloc ?_ _)); exact BK908.out) hb); have n1_ := Aside0.mk (below_step (by repeat (first | (with_reducible first | exact HB.out | apply below_alloc | apply pw_below_drewN | apply below_drew1 | refine below_set ?_ GE908.out) | exact HB.out)) hb); clear BK908; clear HB; have BK908 := n0_; have HB := n1_; clear n0_ n1_; (try clear hb); (try clear hb2); (try clear hk); (try clear hi)))
       go_meet
       case rel => exact ⟨_, (true), (by first | rfl | (simp; done) | (simp [*]; done)), H', ⟨by first | omega | exact Nat.le_refl _⟩, ⟨by (with_reducible repeat (first | refine blk_drewN ?_ _ | refine blk_drew ?_ | refine blk_alloc ?_ _)); exact BK908.out⟩, ⟨by repeat (first | (with_reducible first | exact HB.out | apply below_alloc | apply pw_below_drewN | apply below_drew1 | refine below_set ?_ GE908.out) | exact HB.out)⟩⟩
     ·replace c17 := Bool.eq_false_iff.mpr c17
      subst c17
      have H1 : (signatorylaw40_RebuildHidden.j0 k a1 l2 l3 l4 l5 true l0_0 l0_1) = some r := by rw [if_neg (show ¬ (false = true) by decide)] at H; exact H
      clear H
      have H := H1
      clear H1
      have H' := Aside0.mk H
      clear H
      have hcz55_0 : w11.cell? ⟨gb908, 0, none⟩ = some (.slice A0_0 l0_0.length c0_0) := (blk_cell BK908.out 0).trans rfl
      have hcz55_1 : w11.cell? ⟨gb908, 1, none⟩ = some (.slice A0_1 l0_1.length c0_1) := (blk_cell BK908.out 1).trans rfl
      have hfz55_0 := blk_frozen BK908.out 0
      have hfz55_1 := blk_frozen BK908.out 1
      go_wp2_with (first | ((with_reducible refine gate_callee (f := 39) rfl ?_); refine goesL_ (some 31) rfl rfl Try.func39 (by kernel_rfl) rfl #[.agg #[.slice A0_0 l0_0.length c0_0, .slice A0_1 l0_1.length c0_1]] rfl (by (try simp only [List.map_toArray, List.map_cons, List.map_nil]); first | done | rfl | (simp only [List.length_drop, List.length_take]; rfl)) ?_; (with_reducible refine (signatorylaw40_few.calls k _ _ l0_0 _ _ l0_1 true _ ?side1 ?side2 ?side3 ?side4 A12.out).mono ?_); (case side1 => repeat (first | exact (Kd.C_below HR0_0.out HB.out) | (with_reducible refine Kd.C_alloc ?_ _) | (with_reducible refine Kd.C_drewN ?_ _) | (with_reducible refine Kd.C_drew ?_))); (case side2 => exact HC0_0.out); (case side3 => repeat (first | exact (Kd.C_below HR0_1.out HB.out) | (with_reducible refine Kd.C_alloc ?_ _) | (with_reducible refine Kd.C_drewN ?_ _) | (with_reducible refine Kd.C_drew ?_))); (case side4 => exact HC0_1.out); rintro e w56 ⟨rfl, hb⟩; refine ⟨_, rfl, ?_⟩; have n0_ := Aside0.mk (blk_below (g := gb908) (o := .cells #[.slice A0_0 l0_0.length c0_0, .slice A0_1 l0_1.length c0_1] 25 (0, 0)) (by (with_reducible repeat (first | refine blk_drewN ?_ _ | refine blk_drew ?_ | refine blk_alloc ?_ _)); exact BK908.out) hb); have n1_ := Aside0.mk (below_step (by repeat (first | (with_reducible first | exact HB.out | apply below_alloc | apply pw_below_drewN | apply below_drew1 | refine below_set ?_ GE908.out) | exact HB.out)) hb); clear BK908; clear HB; have BK908 := n0_; have HB := n1_; clear n0_ n1_; (try clear hb); (try clear hb2); (try clear hk); (try clear hi); have hcz57_0 : w56.cell? ⟨gb908, 0, none⟩ = some (.slice A0_0 l0_0.length c0_0) := (blk_cell BK908.out 0).trans rfl; have hcz57_1 : w56.cell? ⟨gb908, 1, none⟩ = some (.slice A0_1 l0_1.length c0_1) := (blk_cell BK908.out 1).trans rfl; have hfz57_0 := blk_frozen BK908.out 0; have hfz57_1 := blk_frozen BK908.out 1) | (go_at_call 58; (with_reducible refine (signatoryref23_Check.calls k _ _ l0_0 _ _ l0_1 t911 _ ?side1 ?side2 ?side3 ?side4 A14.out).mono ?_); (case side1 => repeat (first | exact (Kd.C_below HR0_0.out HB.out) | (with_reducible refine Kd.C_alloc ?_ _) | (with_reducible refine Kd.C_drewN ?_ _) | (with_reducible refine Kd.C_drew ?_))); (case side2 => exact HC0_0.out); (case side3 => repeat (first | exact (Kd.C_below HR0_1.out HB.out) | (with_reducible refine Kd.C_alloc ?_ _) | (with_reducible refine Kd.C_drewN ?_ _) | (with_reducible refine Kd.C_drew ?_))); (case side4 => exact HC0_1.out); rintro e w58 ⟨rfl, hb⟩; have n0_ := Aside0.mk (blk_below (g := gb908) (o := .cells #[.slice A0_0 l0_0.length c0_0, .slice A0_1 l0_1.length c0_1] 25 (0, 0)) (by (with_reducible repeat (first | refine blk_drewN ?_ _ | refine blk_drew ?_ | refine blk_alloc ?_ _)); exact BK908.out) hb); have n1_ := Aside0.mk (below_step (by repeat (first | (with_reducible first | exact HB.out | apply below_alloc | apply pw_below_drewN | apply below_drew1 | refine below_set ?_ GE908.out) | exact HB.out)) hb); clear BK908; clear HB; have BK908 := n0_; have HB := n1_; clear n0_ n1_; (try clear hb); (try clear hb2); (try clear hk); (try clear hi); have hcz59_0 : w58.cell? ⟨gb908, 0, none⟩ = some (.slice A0_0 l0_0.length c0_0) := (blk_cell BK908.out 0).trans rfl; have hcz59_1 : w58.cell? ⟨gb908, 1, none⟩ = some (.slice A0_1 l0_1.length c0_1) := (blk_cell BK908.out 1).trans rfl; have hfz59_0 := blk_frozen BK908.out 0; have hfz59_1 := blk_frozen BK908.out 1) | (go_at_call 59; (with_reducible refine (signatoryref40_Rows.calls k _ _ l0_0 _ _ l0_1 a1 _ _ l2 false _ ?side1 ?side2 ?side3 ?side4 ?side5 ?side6 A16.out).mono ?_); (case side1 => repeat (first | exact (Kd.C_below HR0_0.out HB.out) | (with_reducible refine Kd.C_alloc ?_ _) | (with_reducible refine Kd.C_drewN ?_ _) | (with_reducible refine Kd.C_drew ?_))); (case side2 => exact HC0_0.out); (case side3 => repeat (first | exact (Kd.C_below HR0_1.out HB.out) | (with_reducible refine Kd.C_alloc ?_ _) | (with_reducible refine Kd.C_drewN ?_ _) | (with_reducible refine Kd.C_drew ?_))); (case side4 => exact HC0_1.out); (case side5 => repeat (first | exact (Kd.C_below HR2.out HB.out) | (with_reducible refine Kd.C_alloc ?_ _) | (with_reducible refine Kd.C_drewN ?_ _) | (with_reducible refine Kd.C_drew ?_))); (case side6 => exact HC2.out); rintro e w60 ⟨rfl, hb⟩; have n0_ := Aside0.mk (blk_below (g := gb908) (o := .cells #[.slice A0_0 l0_0.length c0_0, .slice A0_1 l0_1.length c0_1] 25 (0, 0)) (by (with_reducible repeat (first | refine blk_drewN ?_ _ | refine blk_drew ?_ | refine blk_alloc ?_ _)); exact BK908.out) hb); have n1_ := Aside0.mk (below_step (by repeat (first | (with_reducible first | exact HB.out | apply below_alloc | apply pw_below_drewN | apply below_drew1 | refine below_set ?_ GE908.out) | exact HB.out)) hb); clear BK908; clear HB; have BK908 := n0_; have HB := n1_; clear n0_ n1_; (try clear hb); (try clear hb2); (try clear hk); (try clear hi)))
      go_meet
      case rel => exact ⟨_, (true), (by first | rfl | (simp; done) | (simp [*]; done)), H', ⟨by first | omega | exact Nat.le_refl _⟩, ⟨by (with_reducible repeat (first | refine blk_drewN ?_ _ | refine blk_drew ?_ | refine blk_alloc ?_ _)); exact BK908.out⟩, ⟨by repeat (first | (with_reducible first | exact HB.out | apply below_alloc | apply pw_below_drewN | apply below_drew1 | refine below_set ?_ GE908.out) | exact HB.out)⟩⟩
    ·rw [if_neg c15] at H
     have c15b0 : (t911 == 0) = false := beq_eq_false_iff_ne.mpr c15
     have c15b1 : (t911 != 0) = true := bne_iff_ne.mpr c15
     (first | rw [c15b0] | (simp only [i64_w, i32_w]; rw [c15b0]) | skip)
     have H' := Aside0.mk H
     clear H
     have hcz61_0 : w11.cell? ⟨gb908, 0, none⟩ = some (.slice A0_0 l0_0.length c0_0) := (blk_cell BK908.out 0).trans rfl
     have hcz61_1 : w11.cell? ⟨gb908, 1, none⟩ = some (.slice A0_1 l0_1.length c0_1) := (blk_cell BK908.out 1).trans rfl
     have hfz61_0 := blk_frozen BK908.out 0
     have hfz61_1 := blk_frozen BK908.out 1
     go_wp2_with (first | ((with_reducible refine gate_callee (f := 39) rfl ?_); refine goesL_ (some 31) rfl rfl Try.func39 (by kernel_rfl) rfl #[.agg #[.slice A0_0 l0_0.length c0_0, .slice A0_1 l0_1.length c0_1]] rfl (by (try simp only [List.map_toArray, List.map_cons, List.map_nil]); first | done | rfl | (simp only [List.length_drop, List.length_take]; rfl)) ?_; (with_reducible refine (signatorylaw40_few.calls k _ _ l0_0 _ _ l0_1 true _ ?side1 ?side2 ?side3 ?side4 A12.out).mono ?_); (case side1 => repeat (first | exact (Kd.C_below HR0_0.out HB.out) | (with_reducible refine Kd.C_alloc ?_ _) | (with_reducible refine Kd.C_drewN ?_ _) | (with_reducible refine Kd.C_drew ?_))); (case side2 => exact HC0_0.out); (case side3 => repeat (first | exact (Kd.C_below HR0_1.out HB.out) | (with_reducible refine Kd.C_alloc ?_ _) | (with_reducible refine Kd.C_drewN ?_ _) | (with_reducible refine Kd.C_drew ?_))); (case side4 => exact HC0_1.out); rintro e w62 ⟨rfl, hb⟩; refine ⟨_, rfl, ?_⟩; have n0_ := Aside0.mk (blk_below (g := gb908) (o := .cells #[.slice A0_0 l0_0.length c0_0, .slice A0_1 l0_1.length c0_1] 25 (0, 0)) (by (with_reducible repeat (first | refine blk_drewN ?_ _ | refine blk_drew ?_ | refine blk_alloc ?_ _)); exact BK908.out) hb); have n1_ := Aside0.mk (below_step (by repeat (first | (with_reducible first | exact HB.out | apply below_alloc | apply pw_below_drewN | apply below_drew1 | refine below_set ?_ GE908.out) | exact HB.out)) hb); clear BK908; clear HB; have BK908 := n0_; have HB := n1_; clear n0_ n1_; (try clear hb); (try clear hb2); (try clear hk); (try clear hi); have hcz63_0 : w62.cell? ⟨gb908, 0, none⟩ = some (.slice A0_0 l0_0.length c0_0) := (blk_cell BK908.out 0).trans rfl; have hcz63_1 : w62.cell? ⟨gb908, 1, none⟩ = some (.slice A0_1 l0_1.length c0_1) := (blk_cell BK908.out 1).trans rfl; have hfz63_0 := blk_frozen BK908.out 0; have hfz63_1 := blk_frozen BK908.out 1) | (go_at_call 58; (with_reducible refine (signatoryref23_Check.calls k _ _ l0_0 _ _ l0_1 t911 _ ?side1 ?side2 ?side3 ?side4 A14.out).mono ?_); (case side1 => repeat (first | exact (Kd.C_below HR0_0.out HB.out) | (with_reducible refine Kd.C_alloc ?_ _) | (with_reducible refine Kd.C_drewN ?_ _) | (with_reducible refine Kd.C_drew ?_))); (case side2 => exact HC0_0.out); (case side3 => repeat (first | exact (Kd.C_below HR0_1.out HB.out) | (with_reducible refine Kd.C_alloc ?_ _) | (with_reducible refine Kd.C_drewN ?_ _) | (with_reducible refine Kd.C_drew ?_))); (case side4 => exact HC0_1.out); rintro e w64 ⟨rfl, hb⟩; have n0_ := Aside0.mk (blk_below (g := gb908) (o := .cells #[.slice A0_0 l0_0.length c0_0, .slice A0_1 l0_1.length c0_1] 25 (0, 0)) (by (with_reducible repeat (first | refine blk_drewN ?_ _ | refine blk_drew ?_ | refine blk_alloc ?_ _)); exact BK908.out) hb); have n1_ := Aside0.mk (below_step (by repeat (first | (with_reducible first | exact HB.out | apply below_alloc | apply pw_below_drewN | apply below_drew1 | refine below_set ?_ GE908.out) | exact HB.out)) hb); clear BK908; clear HB; have BK908 := n0_; have HB := n1_; clear n0_ n1_; (try clear hb); (try clear hb2); (try clear hk); (try clear hi)))
     go_meet
     case rel => exact ⟨_, (true), (by first | rfl | (simp; done) | (simp [*]; done)), H', ⟨by first | omega | exact Nat.le_refl _⟩, ⟨by (with_reducible repeat (first | refine blk_drewN ?_ _ | refine blk_drew ?_ | refine blk_alloc ?_ _)); exact BK908.out⟩, ⟨by repeat (first | (with_reducible first | exact HB.out | apply below_alloc | apply pw_below_drewN | apply below_drew1 | refine below_set ?_ GE908.out) | exact HB.out)⟩⟩
   ·replace c13 := Bool.eq_false_iff.mpr c13
    subst c13
    have H1 : (signatorylaw40_RebuildHidden.j0 k a1 l2 l3 l4 l5 true l0_0 l0_1) = some r := by rw [if_neg (show ¬ (false = true) by decide)] at H; exact H
    clear H
    have H := H1
    clear H1
    have H' := Aside0.mk H
    clear H
    have hcz65_0 : w11.cell? ⟨gb908, 0, none⟩ = some (.slice A0_0 l0_0.length c0_0) := (blk_cell BK908.out 0).trans rfl
    have hcz65_1 : w11.cell? ⟨gb908, 1, none⟩ = some (.slice A0_1 l0_1.length c0_1) := (blk_cell BK908.out 1).trans rfl
    have hfz65_0 := blk_frozen BK908.out 0
    have hfz65_1 := blk_frozen BK908.out 1
    go_wp2_with (first | ((with_reducible refine gate_callee (f := 39) rfl ?_); refine goesL_ (some 31) rfl rfl Try.func39 (by kernel_rfl) rfl #[.agg #[.slice A0_0 l0_0.length c0_0, .slice A0_1 l0_1.length c0_1]] rfl (by (try simp only [List.map_toArray, List.map_cons, List.map_nil]); first | done | rfl | (simp only [List.length_drop, List.length_take]; rfl)) ?_; (with_reducible refine (signatorylaw40_few.calls k _ _ l0_0 _ _ l0_1 false _ ?side1 ?side2 ?side3 ?side4 A12.out).mono ?_); (case side1 => repeat (first | exact (Kd.C_below HR0_0.out HB.out) | (with_reducible refine Kd.C_alloc ?_ _) | (with_reducible refine Kd.C_drewN ?_ _) | (with_reducible refine Kd.C_drew ?_))); (case side2 => exact HC0_0.out); (case side3 => repeat (first | exact (Kd.C_below HR0_1.out HB.out) | (with_reducible refine Kd.C_alloc ?_ _) | (with_reducible refine Kd.C_drewN ?_ _) | (with_reducible refine Kd.C_drew ?_))); (case side4 => exact HC0_1.out); rintro e w66 ⟨rfl, hb⟩; refine ⟨_, rfl, ?_⟩; have n0_ := Aside0.mk (blk_below (g := gb908) (o := .cells #[.slice A0_0 l0_0.length c0_0, .slice A0_1 l0_1.length c0_1] 25 (0, 0)) (by (with_reducible repeat (first | refine blk_drewN ?_ _ | refine blk_drew ?_ | refine blk_alloc ?_ _)); exact BK908.out) hb); have n1_ := Aside0.mk (below_step (by repeat (first | (with_reducible first | exact HB.out | apply below_alloc | apply pw_below_drewN | apply below_drew1 | refine below_set ?_ GE908.out) | exact HB.out)) hb); clear BK908; clear HB; have BK908 := n0_; have HB := n1_; clear n0_ n1_; (try clear hb); (try clear hb2); (try clear hk); (try clear hi)))
    go_meet
    case rel => exact ⟨_, (true), (by first | rfl | (simp; done) | (simp [*]; done)), H', ⟨by first | omega | exact Nat.le_refl _⟩, ⟨by (with_reducible repeat (first | refine blk_drewN ?_ _ | refine blk_drew ?_ | refine blk_alloc ?_ _)); exact BK908.out⟩, ⟨by repeat (first | (with_reducible first | exact HB.out | apply below_alloc | apply pw_below_drewN | apply below_drew1 | refine below_set ?_ GE908.out) | exact HB.out)⟩⟩
  case rest =>
   clear HC9
   try clear c1
   try clear c2
   try clear p2
   try clear c3
   try clear c4
   try clear c5
   try clear c8
   try clear c11
   try clear c13
   try clear c15
   try clear c15b0
   try clear c15b1
   try clear c17
   try clear c18
   try clear c18b0
   try clear c18b1
   try clear c18b2
   try clear c19
   try clear c19b0
   try clear c19b1
   try clear c19b2
   try clear c21
   try clear c23
   try clear c38
   try clear c39
   try clear hcz25_0
   try clear hcz25_1
   try clear hcz27_0
   try clear hcz27_1
   try clear hcz29_0
   try clear hcz29_1
   try clear hcz31_0
   try clear hcz31_1
   try clear hcz33_0
   try clear hcz33_1
   try clear hcz35_0
   try clear hcz35_1
   try clear hcz37_0
   try clear hcz37_1
   try clear hcz39_0
   try clear hcz39_1
   try clear hcz41_0
   try clear hcz41_1
   try clear hcz43_0
   try clear hcz43_1
   try clear hcz45_0
   try clear hcz45_1
   try clear hcz47_0
   try clear hcz47_1
   try clear hcz49_0
   try clear hcz49_1
   try clear hcz51_0
   try clear hcz51_1
   try clear hcz53_0
   try clear hcz53_1
   try clear hcz55_0
   try clear hcz55_1
   try clear hcz57_0
   try clear hcz57_1
   try clear hcz59_0
   try clear hcz59_1
   try clear hcz61_0
   try clear hcz61_1
   try clear hcz63_0
   try clear hcz63_1
   try clear hcz65_0
   try clear hcz65_1
   try clear hfz25_0
   try clear hfz25_1
   try clear hfz27_0
   try clear hfz27_1
   try clear hfz29_0
   try clear hfz29_1
   try clear hfz31_0
   try clear hfz31_1
   try clear hfz33_0
   try clear hfz33_1
   try clear hfz35_0
   try clear hfz35_1
   try clear hfz37_0
   try clear hfz37_1
   try clear hfz39_0
   try clear hfz39_1
   try clear hfz41_0
   try clear hfz41_1
   try clear hfz43_0
   try clear hfz43_1
   try clear hfz45_0
   try clear hfz45_1
   try clear hfz47_0
   try clear hfz47_1
   try clear hfz49_0
   try clear hfz49_1
   try clear hfz51_0
   try clear hfz51_1
   try clear hfz53_0
   try clear hfz53_1
   try clear hfz55_0
   try clear hfz55_1
   try clear hfz57_0
   try clear hfz57_1
   try clear hfz59_0
   try clear hfz59_1
   try clear hfz61_0
   try clear hfz61_1
   try clear hfz63_0
   try clear hfz63_1
   try clear hfz65_0
   try clear hfz65_1
   obtain ⟨kq, x73_8, rfl, HA, HJ8, BK908, HB⟩ := hcut
   cases kq with
   | zero => exact absurd HA.out (by simp [signatorylaw40_RebuildHidden.j0])
   | succ kj8 =>
    have H := HA.out
    clear HA
    simp only [signatorylaw40_RebuildHidden.j0] at H
    by_cases c67 : x73_8 = true
    ·subst c67
     have H1 : (some true) = some r := by rw [if_pos rfl] at H; exact H
     clear H
     have H := H1
     clear H1
     obtain rfl := Option.some.inj H
     go_wp2
     go_ret
     exact ⟨by first | rfl | (simp [errW_none, errW_some] <;> rfl) | (simp [*, errW_none, errW_some] <;> rfl), by repeat (first | (with_reducible first | exact HB.out | apply below_alloc | apply pw_below_drewN | apply below_drew1 | refine below_set ?_ GE908.out) | exact HB.out)⟩
    ·replace c67 := Bool.eq_false_iff.mpr c67
     subst c67
     have H1 : ((rebuild_Plan.f l0_0 l0_1 a1 l2).bind fun bt916 => (if bt916.2.2 = 0 then (signatorylaw40_RebuildHidden.j1 kj8 l2 l3 l4 l5 bt916.1 bt916.2.2 (!bt916.2.1)) else (signatorylaw40_RebuildHidden.j1 kj8 l2 l3 l4 l5 bt916.1 bt916.2.2 true))) = some r := by rw [if_neg (show ¬ (false = true) by decide)] at H; exact H
     clear H
     have H := H1
     clear H1
     replace H := Option.bind_eq_some_iff.mp H
     obtain ⟨⟨t916, t919, t920⟩, A680, H⟩ := H
     replace H : (if t920 = 0 then (signatorylaw40_RebuildHidden.j1 kj8 l2 l3 l4 l5 t916 t920 (!t919)) else (signatorylaw40_RebuildHidden.j1 kj8 l2 l3 l4 l5 t916 t920 true)) = some r := H
     have A68 := Aside0.mk A680
     clear A680
     have HC69 := Aside0.mk H
     clear H
     have hcz70_0 : wc.cell? ⟨gb908, 0, none⟩ = some (.slice A0_0 l0_0.length c0_0) := (blk_cell BK908.out 0).trans rfl
     have hcz70_1 : wc.cell? ⟨gb908, 1, none⟩ = some (.slice A0_1 l0_1.length c0_1) := (blk_cell BK908.out 1).trans rfl
     have hfz70_0 := blk_frozen BK908.out 0
     have hfz70_1 := blk_frozen BK908.out 1
     go_upto_region 6 with (first | ((with_reducible refine gate_callee (f := 40) rfl ?_); refine goesL_ (some 78) rfl rfl Try.func40 (by kernel_rfl) rfl #[.agg #[.slice A0_0 l0_0.length c0_0, .slice A0_1 l0_1.length c0_1], .int .i64 a1, .slice A2 l2.length c2] rfl (by (try simp only [List.map_toArray, List.map_cons, List.map_nil]); first | done | rfl | (simp only [List.length_drop, List.length_take]; rfl)) ?_; (with_reducible refine (rebuild_Plan.calls _ _ l0_0 _ _ l0_1 a1 _ _ l2 t916 t919 t920 _ ?side1 ?side2 ?side3 ?side4 ?side5 ?side6 A68.out).mono ?_); (case side1 => repeat (first | exact (Kd.C_below HR0_0.out HB.out) | (with_reducible refine Kd.C_alloc ?_ _) | (with_reducible refine Kd.C_drewN ?_ _) | (with_reducible refine Kd.C_drew ?_))); (case side2 => exact HC0_0.out); (case side3 => repeat (first | exact (Kd.C_below HR0_1.out HB.out) | (with_reducible refine Kd.C_alloc ?_ _) | (with_reducible refine Kd.C_drewN ?_ _) | (with_reducible refine Kd.C_drew ?_))); (case side4 => exact HC0_1.out); (case side5 => repeat (first | exact (Kd.C_below HR2.out HB.out) | (with_reducible refine Kd.C_alloc ?_ _) | (with_reducible refine Kd.C_drewN ?_ _) | (with_reducible refine Kd.C_drew ?_))); (case side6 => exact HC2.out); rintro e w71 ⟨v917, rfl, ho0, hb⟩; refine ⟨_, rfl, ?_⟩; have n0_ := Aside0.mk (Kd.R_lower ho0 (below_size (by repeat (first | (with_reducible first | exact HB.out | apply below_alloc | apply pw_below_drewN | apply below_drew1 | refine below_set ?_ GE908.out) | exact HB.out)))); have n1_ := Aside0.mk (blk_below (g := gb908) (o := .cells #[.slice A0_0 l0_0.length c0_0, .slice A0_1 l0_1.length c0_1] 25 (0, 0)) (by (with_reducible repeat (first | refine blk_drewN ?_ _ | refine blk_drew ?_ | refine blk_alloc ?_ _)); exact BK908.out) hb); have n2_ := Aside0.mk (below_step (by repeat (first | (with_reducible first | exact HB.out | apply below_alloc | apply pw_below_drewN | apply below_drew1 | refine below_set ?_ GE908.out) | exact HB.out)) hb); clear BK908; clear HB; have HO918 := n0_; have BK908 := n1_; have HB := n2_; clear n0_ n1_ n2_; (try clear hb); (try clear hb2); (try clear hk); (try clear hi); (try clear ho0)))
     (try simp only [Act.put, List.setIfInBounds_toArray, List.set_cons_zero, List.set_cons_succ])
     go_cut [87] (fun v87 wc => ∃ (kq : Nat) (x87_68 : Bool), v87 = .bool x87_68 ∧ Aside0 (signatorylaw40_RebuildHidden.j1 kq l2 l3 l4 l5 t916 t920 x87_68 = some r) ∧ Aside0 (kq ≤ kj8) ∧ Aside0 (Kd.R (Kd.int .i64) 3 wc w.heap.size (fun _ => True) v917 t916) ∧ Aside0 (wc.heap[gb908]? = some (.cells #[(.slice A0_0 l0_0.length c0_0), (.slice A0_1 l0_1.length c0_1)] 25 (0, 0))) ∧ Aside0 (Below w.heap.size w wc))
     case first =>
      have H := HC69.out
      clear HC69
      by_cases c72 : t920 = 0
      ·rw [if_pos c72] at H
       have c72b0 : (t920 == 0) = true := beq_iff_eq.mpr c72
       have c72b1 : (t920 != 0) = false := bne_eq_false_iff_eq.mpr c72
       clear c72
       (first | rw [c72b0] | (simp only [i64_w, i32_w]; rw [c72b0]) | skip)
       have H' := Aside0.mk H
       clear H
       go_wp2
       go_meet
       case rel => exact ⟨_, (!t919), (by first | rfl | (simp; done) | (simp [*]; done)), H', ⟨by have := HJ8.out; first | omega | exact Nat.le_refl _⟩, ⟨by (with_reducible repeat (first | apply Kd.R_alloc | apply Kd.R_drewN | apply Kd.R_drew)); exact HO918.out⟩, ⟨by (with_reducible repeat (first | refine blk_drewN ?_ _ | refine blk_drew ?_ | refine blk_alloc ?_ _)); exact BK908.out⟩, ⟨by repeat (first | (with_reducible first | exact HB.out | apply below_alloc | apply pw_below_drewN | apply below_drew1 | refine below_set ?_ GE908.out) | exact HB.out)⟩⟩
      ·rw [if_neg c72] at H
       have c72b0 : (t920 == 0) = false := beq_eq_false_iff_ne.mpr c72
       have c72b1 : (t920 != 0) = true := bne_iff_ne.mpr c72
       (first | rw [c72b0] | (simp only [i64_w, i32_w]; rw [c72b0]) | skip)
       have H' := Aside0.mk H
       clear H
       go_wp2
       go_meet
       case rel => exact ⟨_, (true), (by first | rfl | (simp; done) | (simp [*]; done)), H', ⟨by have := HJ8.out; first | omega | exact Nat.le_refl _⟩, ⟨by (with_reducible repeat (first | apply Kd.R_alloc | apply Kd.R_drewN | apply Kd.R_drew)); exact HO918.out⟩, ⟨by (with_reducible repeat (first | refine blk_drewN ?_ _ | refine blk_drew ?_ | refine blk_alloc ?_ _)); exact BK908.out⟩, ⟨by repeat (first | (with_reducible first | exact HB.out | apply below_alloc | apply pw_below_drewN | apply below_drew1 | refine below_set ?_ GE908.out) | exact HB.out)⟩⟩
     case rest =>
      clear HC69
      try clear c1
      try clear c2
      try clear p2
      try clear c3
      try clear c4
      try clear c5
      try clear c6
      try clear c7
      try clear c8
      try clear c11
      try clear c13
      try clear c15
      try clear c15b0
      try clear c15b1
      try clear c17
      try clear c18
      try clear c18b0
      try clear c18b1
      try clear c18b2
      try clear c19
      try clear c19b0
      try clear c19b1
      try clear c19b2
      try clear c21
      try clear c23
      try clear c38
      try clear c39
      try clear c40
      try clear c67
      try clear c72
      try clear c72b0
      try clear c72b1
      try clear hcz25_0
      try clear hcz25_1
      try clear hcz27_0
      try clear hcz27_1
      try clear hcz29_0
      try clear hcz29_1
      try clear hcz31_0
      try clear hcz31_1
      try clear hcz33_0
      try clear hcz33_1
      try clear hcz35_0
      try clear hcz35_1
      try clear hcz37_0
      try clear hcz37_1
      try clear hcz39_0
      try clear hcz39_1
      try clear hcz41_0
      try clear hcz41_1
      try clear hcz43_0
      try clear hcz43_1
      try clear hcz45_0
      try clear hcz45_1
      try clear hcz47_0
      try clear hcz47_1
      try clear hcz49_0
      try clear hcz49_1
      try clear hcz51_0
      try clear hcz51_1
      try clear hcz53_0
      try clear hcz53_1
      try clear hcz55_0
      try clear hcz55_1
      try clear hcz57_0
      try clear hcz57_1
      try clear hcz59_0
      try clear hcz59_1
      try clear hcz61_0
      try clear hcz61_1
      try clear hcz63_0
      try clear hcz63_1
      try clear hcz65_0
      try clear hcz65_1
      try clear hcz70_0
      try clear hcz70_1
      try clear hfz25_0
      try clear hfz25_1
      try clear hfz27_0
      try clear hfz27_1
      try clear hfz29_0
      try clear hfz29_1
      try clear hfz31_0
      try clear hfz31_1
      try clear hfz33_0
      try clear hfz33_1
      try clear hfz35_0
      try clear hfz35_1
      try clear hfz37_0
      try clear hfz37_1
      try clear hfz39_0
      try clear hfz39_1
      try clear hfz41_0
      try clear hfz41_1
      try clear hfz43_0
      try clear hfz43_1
      try clear hfz45_0
      try clear hfz45_1
      try clear hfz47_0
      try clear hfz47_1
      try clear hfz49_0
      try clear hfz49_1
      try clear hfz51_0
      try clear hfz51_1
      try clear hfz53_0
      try clear hfz53_1
      try clear hfz55_0
      try clear hfz55_1
      try clear hfz57_0
      try clear hfz57_1
      try clear hfz59_0
      try clear hfz59_1
      try clear hfz61_0
      try clear hfz61_1
      try clear hfz63_0
      try clear hfz63_1
      try clear hfz65_0
      try clear hfz65_1
      try clear hfz70_0
      try clear hfz70_1
      try clear p2
      obtain ⟨kq, x87_68, rfl, HA, HJ68, HO_13, BK908, HB⟩ := hcut
      cases kq with
      | zero => exact absurd HA.out (by simp [signatorylaw40_RebuildHidden.j1])
      | succ kj68 =>
       have H := HA.out
       clear HA
       simp only [signatorylaw40_RebuildHidden.j1] at H
       by_cases c73 : x87_68 = true
       ·subst c73
        have H1 : (some (t920 == 0)) = some r := by rw [if_pos rfl] at H; exact H
        clear H
        have H := H1
        clear H1
        obtain rfl := Option.some.inj H
        go_wp2
        go_ret
        exact ⟨by first | rfl | (simp [errW_none, errW_some] <;> rfl) | (simp [*, errW_none, errW_some] <;> rfl), by repeat (first | (with_reducible first | exact HB.out | apply below_alloc | apply pw_below_drewN | apply below_drew1 | refine below_set ?_ GE908.out) | exact HB.out)⟩
       ·replace c73 := Bool.eq_false_iff.mpr c73
        subst c73
        have H1 : (if (t916.length : Int) = (l2.length : Int) then (signatorylaw40_RebuildHidden.l0 kj68 l2 l3 l4 l5 t916 0 0 (l2.length : Int) 0) else (none)) = some r := by rw [if_neg (show ¬ (false = true) by decide)] at H; exact H
        clear H
        have H := H1
        clear H1
        by_cases c74 : (t916.length : Int) = (l2.length : Int)
        ·rw [if_pos c74] at H
         have c74b0 : ((t916.length : Int) == (l2.length : Int)) = true := beq_iff_eq.mpr c74
         have c74b1 : ((t916.length : Int) != (l2.length : Int)) = false := bne_eq_false_iff_eq.mpr c74
         have c74b2 : (t916.length == l2.length) = true := by first | simpa using c74 | (simp at c74 ⊢; omega)
         clear c74
         have H' := Aside0.mk H
         clear H
         obtain ⟨Ao75, co75, eo75⟩ := Kd.R_slice HO_13.out
         subst eo75
         go_wp2
         go_loopg [16, 17, 97] kj68 (fun kq v16 v17 v97 w' => ∃ (x16_3 : Int) (x17_3 : Int) (x97_3 : Int), v16 = .int .i64 x16_3 ∧ v17 = .int .i64 x17_3 ∧ v97 = .int .i64 x97_3 ∧ Aside0 (signatorylaw40_RebuildHidden.l0 kq l2 l3 l4 l5 t916 x16_3 x17_3 (l2.length : Int) x97_3 = some r) ∧ Aside0 (kq ≤ kj68) ∧ Aside0 (Kd.R (Kd.int .i64) 3 w' w.heap.size (fun _ => True) (.slice Ao75 t916.length co75) t916) ∧ Aside0 (w'.heap[gb908]? = some (.cells #[(.slice A0_0 l0_0.length c0_0), (.slice A0_1 l0_1.length c0_1)] 25 (0, 0))) ∧ Aside0 (Below w.heap.size w w'))
         case atStart => exact ⟨(0), (0), (0), (by first | rfl | (simp; done) | (simp [*]; done)), (by first | rfl | (simp; done) | (simp [*]; done)), (by first | rfl | (simp; done) | (simp [*]; done)), H', ⟨Nat.le_refl _⟩, ⟨by (with_reducible repeat (first | apply Kd.R_alloc | apply Kd.R_drewN | apply Kd.R_drew)); exact HO_13.out⟩, ⟨by (with_reducible repeat (first | refine blk_drewN ?_ _ | refine blk_drew ?_ | refine blk_alloc ?_ _)); exact BK908.out⟩, ⟨by repeat (first | (with_reducible first | exact HB.out | apply below_alloc | apply pw_below_drewN | apply below_drew1 | refine below_set ?_ GE908.out) | exact HB.out)⟩⟩
         case round =>
          clear H'
          try clear c1
          try clear c2
          try clear p2
          try clear c3
          try clear c4
          try clear c5
          try clear c6
          try clear c7
          try clear c8
          try clear c11
          try clear c13
          try clear c15
          try clear c15b0
          try clear c15b1
          try clear c17
          try clear c18
          try clear c18b0
          try clear c18b1
          try clear c18b2
          try clear c19
          try clear c19b0
          try clear c19b1
          try clear c19b2
          try clear c21
          try clear c23
          try clear c38
          try clear c39
          try clear c40
          try clear c67
          try clear c72
          try clear c72b0
          try clear c72b1
          try clear c73
          try clear c74
          try clear c74b0
          try clear c74b1
          try clear c74b2
          try clear hcz25_0
          try clear hcz25_1
          try clear hcz27_0
          try clear hcz27_1
          try clear hcz29_0
          try clear hcz29_1
          try clear hcz31_0
          try clear hcz31_1
          try clear hcz33_0
          try clear hcz33_1
          try clear hcz35_0
          try clear hcz35_1
          try clear hcz37_0
          try clear hcz37_1
          try clear hcz39_0
          try clear hcz39_1
          try clear hcz41_0
          try clear hcz41_1
          try clear hcz43_0
          try clear hcz43_1
          try clear hcz45_0
          try clear hcz45_1
          try clear hcz47_0
          try clear hcz47_1
          try clear hcz49_0
          try clear hcz49_1
          try clear hcz51_0
          try clear hcz51_1
          try clear hcz53_0
          try clear hcz53_1
          try clear hcz55_0
          try clear hcz55_1
          try clear hcz57_0
          try clear hcz57_1
          try clear hcz59_0
          try clear hcz59_1
          try clear hcz61_0
          try clear hcz61_1
          try clear hcz63_0
          try clear hcz63_1
          try clear hcz65_0
          try clear hcz65_1
          try clear hcz70_0
          try clear hcz70_1
          try clear hfz25_0
          try clear hfz25_1
          try clear hfz27_0
          try clear hfz27_1
          try clear hfz29_0
          try clear hfz29_1
          try clear hfz31_0
          try clear hfz31_1
          try clear hfz33_0
          try clear hfz33_1
          try clear hfz35_0
          try clear hfz35_1
          try clear hfz37_0
          try clear hfz37_1
          try clear hfz39_0
          try clear hfz39_1
          try clear hfz41_0
          try clear hfz41_1
          try clear hfz43_0
          try clear hfz43_1
          try clear hfz45_0
          try clear hfz45_1
          try clear hfz47_0
          try clear hfz47_1
          try clear hfz49_0
          try clear hfz49_1
          try clear hfz51_0
          try clear hfz51_1
          try clear hfz53_0
          try clear hfz53_1
          try clear hfz55_0
          try clear hfz55_1
          try clear hfz57_0
          try clear hfz57_1
          try clear hfz59_0
          try clear hfz59_1
          try clear hfz61_0
          try clear hfz61_1
          try clear hfz63_0
          try clear hfz63_1
          try clear hfz65_0
          try clear hfz65_1
          try clear hfz70_0
          try clear hfz70_1
          try clear p2
          obtain ⟨x16_3, x17_3, x97_3, rfl, rfl, rfl, HA, HK3, HO_13, BK908, HB⟩ := hrel
          cases gk with
          | zero => exact absurd HA.out (by simp [signatorylaw40_RebuildHidden.l0])
          | succ k3 =>
           have H := HA.out
           clear HA
           simp only [signatorylaw40_RebuildHidden.l0] at H
           by_cases c76 : x97_3 < (l2.length : Int)
           ·rw [if_pos c76] at H
            have c76b0 : decide (x97_3 < (l2.length : Int)) = true := decide_eq_true c76
            clear c76
            by_cases c77 : 0 ≤ x97_3
            ·rw [if_pos c77] at H
             have c77b0 : decide (0 ≤ x97_3) = true := decide_eq_true c77
             clear c77
             by_cases c78 : x97_3 < (t916.length : Int)
             ·rw [if_pos c78] at H
              have c78b0 : decide (x97_3 < (t916.length : Int)) = true := decide_eq_true c78
              clear c78
              replace H := Option.bind_eq_some_iff.mp H
              obtain ⟨t922, A790, H⟩ := H
              replace H : (if t922 = true then (if x97_3 < (l3.length : Int) then (if x97_3 < (l4.length : Int) then (signatorylaw40_RebuildHidden.l0 k3 l2 l3 l4 l5 t916 (Int.tmod (wrap64 (x16_3 + (wrap64 ((rd t916 x97_3) * (rd l3 x97_3))))) 1073741789) (Int.tmod (wrap64 (x17_3 + (wrap64 ((rd t916 x97_3) * (rd l4 x97_3))))) 1073741789) (l2.length : Int) (wrap64 (x97_3 + 1))) else (none)) else (none)) else (none)) = some r := H
              have A79 := Aside0.mk A790
              clear A790
              by_cases c80 : t922 = true
              ·subst c80
               have H1 : (if x97_3 < (l3.length : Int) then (if x97_3 < (l4.length : Int) then (signatorylaw40_RebuildHidden.l0 k3 l2 l3 l4 l5 t916 (Int.tmod (wrap64 (x16_3 + (wrap64 ((rd t916 x97_3) * (rd l3 x97_3))))) 1073741789) (Int.tmod (wrap64 (x17_3 + (wrap64 ((rd t916 x97_3) * (rd l4 x97_3))))) 1073741789) (l2.length : Int) (wrap64 (x97_3 + 1))) else (none)) else (none)) = some r := by rw [if_pos rfl] at H; exact H
               clear H
               have H := H1
               clear H1
               by_cases c81 : x97_3 < (l3.length : Int)
               ·rw [if_pos c81] at H
                have c81b0 : decide (x97_3 < (l3.length : Int)) = true := decide_eq_true c81
                clear c81
                by_cases c82 : x97_3 < (l4.length : Int)
                ·rw [if_pos c82] at H
                 have c82b0 : decide (x97_3 < (l4.length : Int)) = true := decide_eq_true c82
                 clear c82
                 have H' := Aside0.mk H
                 clear H
                 have p921 : 0 ≤ (x97_3 : Int) := of_decide_eq_true (by first | (with_reducible assumption) | assumption)
                 have q921 : x97_3 < (t916.length : Int) := of_decide_eq_true (by first | (with_reducible assumption) | assumption)
                 obtain ⟨ad921, e921, hx921_0⟩ := Kd.at_int (Kd.R_reads' HO_13.out).2.2 x97_3 p921 q921
                 cases e921
                 replace p921 := eq_true p921
                 replace q921 := eq_true q921
                 try go_wp2_with (first | ((with_reducible refine gate_callee (f := 60) rfl ?_); refine goesL_ (some 104) rfl rfl Try.func60 (by kernel_rfl) rfl #[.int .i64 (rd t916 x97_3)] rfl (by (try simp only [List.map_toArray, List.map_cons, List.map_nil]); first | done | rfl | (simp only [List.length_drop, List.length_take]; rfl)) ?_; (with_reducible refine (signatoryref40_Number.calls (rd t916 x97_3) true _ A79.out).mono ?_); rintro e w' ⟨rfl, ⟨nd, rfl⟩⟩; refine ⟨_, rfl, ?_⟩))
                 (try (rw [drewN_self wr]; generalize hq_ : World.drewN wr _ = wr; have n0_ : Aside0 (Kd.R (Kd.int .i64) 3 wr w.heap.size (fun _ => True) (.slice (some ad921) t916.length co75) t916) := ⟨by rw [← hq_]; exact (by (with_reducible repeat (first | apply Kd.R_alloc | apply Kd.R_drewN | apply Kd.R_drew)); exact HO_13.out)⟩; have n1_ : Aside0 (wr.heap[gb908]? = some (.cells #[.slice A0_0 l0_0.length c0_0, .slice A0_1 l0_1.length c0_1] 25 (0, 0))) := ⟨by rw [← hq_]; exact (by (with_reducible repeat (first | refine blk_drewN ?_ _ | refine blk_drew ?_ | refine blk_alloc ?_ _)); exact BK908.out)⟩; have n2_ : Aside0 (Below w.heap.size w wr) := ⟨by rw [← hq_]; exact (by repeat (first | (with_reducible first | exact HB.out | apply below_alloc | apply pw_below_drewN | apply below_drew1 | refine below_set ?_ GE908.out) | exact HB.out))⟩; clear HO_13 BK908 HB hq_; have HO_13 := n0_; have BK908 := n1_; have HB := n2_; clear n0_ n1_ n2_))
                 have n0_ := Aside0.mk (Kd.R_drew HO_13.out)
                 have n1_ := Aside0.mk (blk_drew BK908.out)
                 have n2_ := Aside0.mk (below_drew1 HB.out)
                 clear HO_13
                 clear BK908
                 clear HB
                 have HO_13 := n0_
                 have BK908 := n1_
                 have HB := n2_
                 clear n0_ n1_ n2_
                 have p923 : 0 ≤ (x97_3 : Int) := of_decide_eq_true (by first | (with_reducible assumption) | assumption)
                 have q923 : x97_3 < (t916.length : Int) := of_decide_eq_true (by first | (with_reducible assumption) | assumption)
                 obtain ⟨ad923, e923, hx923_0⟩ := Kd.at_int (Kd.R_reads' HO_13.out).2.2 x97_3 p923 q923
                 obtain rfl : ad921 = ad923 := (by injection e923)
                 replace p923 := eq_true p923
                 replace q923 := eq_true q923
                 have p924 : 0 ≤ (x97_3 : Int) := of_decide_eq_true (by first | (with_reducible assumption) | assumption)
                 have q924 : x97_3 < (l3.length : Int) := of_decide_eq_true (by first | (with_reducible assumption) | assumption)
                 obtain ⟨ad924, e924, hx924_0⟩ := Kd.at_int HR3.out x97_3 p924 q924
                 have hw924_0 := hx924_0
                 cases e924
                 replace hx924_0 := (HB.out.cell (World.block_lt_of_cell? w _ hx924_0)).trans hx924_0
                 replace p924 := eq_true p924
                 replace q924 := eq_true q924
                 have p925 : 0 ≤ (x97_3 : Int) := of_decide_eq_true (by first | (with_reducible assumption) | assumption)
                 have q925 : x97_3 < (t916.length : Int) := of_decide_eq_true (by first | (with_reducible assumption) | assumption)
                 obtain ⟨ad925, e925, hx925_0⟩ := Kd.at_int (Kd.R_reads' HO_13.out).2.2 x97_3 p925 q925
                 obtain rfl : ad921 = ad925 := (by injection e925)
                 replace p925 := eq_true p925
                 replace q925 := eq_true q925
                 have p926 : 0 ≤ (x97_3 : Int) := of_decide_eq_true (by first | (with_reducible assumption) | assumption)
                 have q926 : x97_3 < (l4.length : Int) := of_decide_eq_true (by first | (with_reducible assumption) | assumption)
                 obtain ⟨ad926, e926, hx926_0⟩ := Kd.at_int HR4.out x97_3 p926 q926
                 have hw926_0 := hx926_0
                 cases e926
                 replace hx926_0 := (HB.out.cell (World.block_lt_of_cell? w _ hx926_0)).trans hx926_0
                 replace p926 := eq_true p926
                 replace q926 := eq_true q926
                 refine start_ (n := 26) (S := fun w' => w'.cell? (ad921.add (x97_3).toNat) = some (.int .i64 (rd t916 x97_3)) ∧ w'.cell? (ad924.add (x97_3).toNat) = some (.int .i64 (rd l3 x97_3)) ∧ w'.cell? (ad921.add (x97_3).toNat) = some (.int .i64 (rd t916 x97_3)) ∧ w'.cell? (ad926.add (x97_3).toNat) = some (.int .i64 (rd l4 x97_3))) (ds := []) #[false, false, false, false, false, false, false, false, false, false, false, false, false, false, false, false, false, false, false, false, false, false, false, false, false, false] (by kernel_rfl) rfl rfl ⟨hx923_0, ((HB.out.cell (World.block_lt_of_cell? w _ hw924_0)).trans hw924_0), hx925_0, ((HB.out.cell (World.block_lt_of_cell? w _ hw926_0)).trans hw926_0)⟩ (fun hHeld => ?_); refine with_tabW signatorylaw40_RebuildHidden.tab16 signatorylaw40_RebuildHidden.bits16 (fun HT_ HW_ => ?_)
                 generalize wr.drew = w83 at HO_13 BK908 HB hx923_0 hx924_0 hx925_0 hx926_0 hHeld ⊢
                 refine pure_ (i := 0) (N := some 106) (v := ?_) (a' := ?_) #[true, false, false, false, false, false, false, false, false, false, false, false, false, false, false, false, false, false, false, false, false, false, false, false, false, false] rfl rfl (any_of HT_.out (by kernel_rfl)) (fun _ _ _ h => h) (Or.inl ⟨by rfl, ?_⟩) ?_ ?_
                 rotate_left
                 ·intro w'
                  go_simp
                  with_reducible rfl
                 rotate_left
                 ·simp only [Act.put, List.setIfInBounds_toArray, List.set_cons_zero, List.set_cons_succ, i64_w, i32_w]
                  rfl
                 refine pure_ (i := 1) (N := some 107) (v := ?_) (a' := ?_) #[true, true, false, false, false, false, false, false, false, false, false, false, false, false, false, false, false, false, false, false, false, false, false, false, false, false] rfl rfl (any_of HT_.out (by kernel_rfl)) (fun _ _ _ h => h) (Or.inl ⟨by rfl, ?_⟩) ?_ ?_
                 rotate_left
                 ·intro w'
                  go_simp
                  with_reducible rfl
                 rotate_left
                 ·simp only [Act.put, List.setIfInBounds_toArray, List.set_cons_zero, List.set_cons_succ, i64_w, i32_w]
                  rfl
                 refine pure_ (i := 2) (N := some 108) (v := ?_) (a' := ?_) #[true, true, true, false, false, false, false, false, false, false, false, false, false, false, false, false, false, false, false, false, false, false, false, false, false, false] rfl rfl (any_of HT_.out (by kernel_rfl)) (fun _ _ _ h => h) (Or.inl ⟨by rfl, ?_⟩) ?_ ?_
                 rotate_left
                 ·intro w'
                  go_simp
                  with_reducible rfl
                 rotate_left
                 ·simp only [Act.put, List.setIfInBounds_toArray, List.set_cons_zero, List.set_cons_succ, i64_w, i32_w]
                  rfl
                 refine pure_ (i := 3) (N := some 109) (v := ?_) (a' := ?_) #[true, true, true, true, false, false, false, false, false, false, false, false, false, false, false, false, false, false, false, false, false, false, false, false, false, false] rfl rfl (any_of HT_.out (by kernel_rfl)) (fun _ _ _ h => h) (Or.inl ⟨by rfl, ?_⟩) ?_ ?_
                 rotate_left
                 ·intro w'
                  go_simp
                  with_reducible rfl
                 rotate_left
                 ·simp only [Act.put, List.setIfInBounds_toArray, List.set_cons_zero, List.set_cons_succ, i64_w, i32_w]
                  rfl
                 refine pure_ (i := 5) (N := some 111) (v := ?_) (a' := ?_) #[true, true, true, true, false, true, false, false, false, false, false, false, false, false, false, false, false, false, false, false, false, false, false, false, false, false] rfl rfl (any_of HT_.out (by kernel_rfl)) (fun _ _ _ h => h) (Or.inl ⟨by rfl, ?_⟩) ?_ ?_
                 rotate_left
                 ·intro w'
                  go_simp
                  with_reducible rfl
                 rotate_left
                 ·simp only [Act.put, List.setIfInBounds_toArray, List.set_cons_zero, List.set_cons_succ, i64_w, i32_w]
                  rfl
                 refine pure_ (i := 6) (N := some 112) (v := ?_) (a' := ?_) #[true, true, true, true, false, true, true, false, false, false, false, false, false, false, false, false, false, false, false, false, false, false, false, false, false, false] rfl rfl (any_of HT_.out (by kernel_rfl)) (fun _ _ _ h => h) (Or.inl ⟨by rfl, ?_⟩) ?_ ?_
                 rotate_left
                 ·intro w'
                  go_simp
                  with_reducible rfl
                 rotate_left
                 ·simp only [Act.put, List.setIfInBounds_toArray, List.set_cons_zero, List.set_cons_succ, i64_w, i32_w]
                  rfl
                 refine pure_ (i := 7) (N := some 113) (v := ?_) (a' := ?_) #[true, true, true, true, false, true, true, true, false, false, false, false, false, false, false, false, false, false, false, false, false, false, false, false, false, false] rfl rfl (any_of HT_.out (by kernel_rfl)) (fun _ _ _ h => h) (Or.inl ⟨by rfl, ?_⟩) ?_ ?_
                 rotate_left
                 ·intro w'
                  go_simp
                  with_reducible rfl
                 rotate_left
                 ·simp only [Act.put, List.setIfInBounds_toArray, List.set_cons_zero, List.set_cons_succ, i64_w, i32_w]
                  rfl
                 refine pure_ (i := 12) (N := some 118) (v := ?_) (a' := ?_) #[true, true, true, true, false, true, true, true, false, false, false, false, true, false, false, false, false, false, false, false, false, false, false, false, false, false] rfl rfl (any_of HT_.out (by kernel_rfl)) (fun _ _ _ h => h) (Or.inl ⟨by rfl, ?_⟩) ?_ ?_
                 rotate_left
                 ·intro w'
                  go_simp
                  with_reducible rfl
                 rotate_left
                 ·simp only [Act.put, List.setIfInBounds_toArray, List.set_cons_zero, List.set_cons_succ, i64_w, i32_w]
                  rfl
                 refine pure_ (i := 13) (N := some 119) (v := ?_) (a' := ?_) #[true, true, true, true, false, true, true, true, false, false, false, false, true, true, false, false, false, false, false, false, false, false, false, false, false, false] rfl rfl (any_of HT_.out (by kernel_rfl)) (fun _ _ _ h => h) (Or.inl ⟨by rfl, ?_⟩) ?_ ?_
                 rotate_left
                 ·intro w'
                  go_simp
                  with_reducible rfl
                 rotate_left
                 ·simp only [Act.put, List.setIfInBounds_toArray, List.set_cons_zero, List.set_cons_succ, i64_w, i32_w]
                  rfl
                 refine pure_ (i := 14) (N := some 120) (v := ?_) (a' := ?_) #[true, true, true, true, false, true, true, true, false, false, false, false, true, true, true, false, false, false, false, false, false, false, false, false, false, false] rfl rfl (any_of HT_.out (by kernel_rfl)) (fun _ _ _ h => h) (Or.inl ⟨by rfl, ?_⟩) ?_ ?_
                 rotate_left
                 ·intro w'
                  go_simp
                  with_reducible rfl
                 rotate_left
                 ·simp only [Act.put, List.setIfInBounds_toArray, List.set_cons_zero, List.set_cons_succ, i64_w, i32_w]
                  rfl
                 refine pure_ (i := 15) (N := some 121) (v := ?_) (a' := ?_) #[true, true, true, true, false, true, true, true, false, false, false, false, true, true, true, true, false, false, false, false, false, false, false, false, false, false] rfl rfl (any_of HT_.out (by kernel_rfl)) (fun _ _ _ h => h) (Or.inl ⟨by rfl, ?_⟩) ?_ ?_
                 rotate_left
                 ·intro w'
                  go_simp
                  with_reducible rfl
                 rotate_left
                 ·simp only [Act.put, List.setIfInBounds_toArray, List.set_cons_zero, List.set_cons_succ, i64_w, i32_w]
                  rfl
                 refine pure_ (i := 17) (N := some 123) (v := ?_) (a' := ?_) #[true, true, true, true, false, true, true, true, false, false, false, false, true, true, true, true, false, true, false, false, false, false, false, false, false, false] rfl rfl (any_of HT_.out (by kernel_rfl)) (fun _ _ _ h => h) (Or.inl ⟨by rfl, ?_⟩) ?_ ?_
                 rotate_left
                 ·intro w'
                  go_simp
                  with_reducible rfl
                 rotate_left
                 ·simp only [Act.put, List.setIfInBounds_toArray, List.set_cons_zero, List.set_cons_succ, i64_w, i32_w]
                  rfl
                 refine pure_ (i := 18) (N := some 124) (v := ?_) (a' := ?_) #[true, true, true, true, false, true, true, true, false, false, false, false, true, true, true, true, false, true, true, false, false, false, false, false, false, false] rfl rfl (any_of HT_.out (by kernel_rfl)) (fun _ _ _ h => h) (Or.inl ⟨by rfl, ?_⟩) ?_ ?_
                 rotate_left
                 ·intro w'
                  go_simp
                  with_reducible rfl
                 rotate_left
                 ·simp only [Act.put, List.setIfInBounds_toArray, List.set_cons_zero, List.set_cons_succ, i64_w, i32_w]
                  rfl
                 refine pure_ (i := 19) (N := some 125) (v := ?_) (a' := ?_) #[true, true, true, true, false, true, true, true, false, false, false, false, true, true, true, true, false, true, true, true, false, false, false, false, false, false] rfl rfl (any_of HT_.out (by kernel_rfl)) (fun _ _ _ h => h) (Or.inl ⟨by rfl, ?_⟩) ?_ ?_
                 rotate_left
                 ·intro w'
                  go_simp
                  with_reducible rfl
                 rotate_left
                 ·simp only [Act.put, List.setIfInBounds_toArray, List.set_cons_zero, List.set_cons_succ, i64_w, i32_w]
                  rfl
                 refine take_ (i := 4) (N := some 110) (v := ?_) (a' := ?_) #[true, true, true, true, true, true, true, true, false, false, false, false, true, true, true, true, false, true, true, true, false, false, false, false, false, false] rfl rfl (take_ofW HT_.out HW_.out (by kernel_rfl)) (fun _ _ _ h => h) (Or.inl ⟨by rfl, ?_⟩) hHeld ?_ ?_
                 rotate_left
                 ·rintro w' ⟨s0, s1, s2, s3⟩
                  go_simp
                  with_reducible rfl
                 rotate_left
                 ·simp only [Act.put, List.setIfInBounds_toArray, List.set_cons_zero, List.set_cons_succ, i64_w, i32_w]
                  rfl
                 refine take_ (i := 8) (N := some 114) (v := ?_) (a' := ?_) #[true, true, true, true, true, true, true, true, true, false, false, false, true, true, true, true, false, true, true, true, false, false, false, false, false, false] rfl rfl (take_ofW HT_.out HW_.out (by kernel_rfl)) (fun _ _ _ h => h) (Or.inl ⟨by rfl, ?_⟩) hHeld ?_ ?_
                 rotate_left
                 ·rintro w' ⟨s0, s1, s2, s3⟩
                  go_simp
                  with_reducible rfl
                 rotate_left
                 ·simp only [Act.put, List.setIfInBounds_toArray, List.set_cons_zero, List.set_cons_succ, i64_w, i32_w]
                  rfl
                 refine pure_ (i := 9) (N := some 115) (v := ?_) (a' := ?_) #[true, true, true, true, true, true, true, true, true, true, false, false, true, true, true, true, false, true, true, true, false, false, false, false, false, false] rfl rfl (any_of HT_.out (by kernel_rfl)) (fun _ _ _ h => h) (Or.inl ⟨by rfl, ?_⟩) ?_ ?_
                 rotate_left
                 ·intro w'
                  go_simp
                  with_reducible rfl
                 rotate_left
                 ·simp only [Act.put, List.setIfInBounds_toArray, List.set_cons_zero, List.set_cons_succ, i64_w, i32_w]
                  rfl
                 refine pure_ (i := 10) (N := some 116) (v := ?_) (a' := ?_) #[true, true, true, true, true, true, true, true, true, true, true, false, true, true, true, true, false, true, true, true, false, false, false, false, false, false] rfl rfl (any_of HT_.out (by kernel_rfl)) (fun _ _ _ h => h) (Or.inl ⟨by rfl, ?_⟩) ?_ ?_
                 rotate_left
                 ·intro w'
                  go_simp
                  with_reducible rfl
                 rotate_left
                 ·simp only [Act.put, List.setIfInBounds_toArray, List.set_cons_zero, List.set_cons_succ, i64_w, i32_w]
                  rfl
                 refine pure_ (i := 11) (N := some 117) (v := ?_) (a' := ?_) #[true, true, true, true, true, true, true, true, true, true, true, true, true, true, true, true, false, true, true, true, false, false, false, false, false, false] rfl rfl (any_of HT_.out (by kernel_rfl)) (fun _ _ _ h => h) (Or.inl ⟨by rfl, ?_⟩) ?_ ?_
                 rotate_left
                 ·intro w'
                  go_simp
                  with_reducible rfl
                 rotate_left
                 ·simp only [Act.put, List.setIfInBounds_toArray, List.set_cons_zero, List.set_cons_succ, i64_w, i32_w]
                  rfl
                 refine pure_ (i := 24) (N := some 16) (v := ?_) (a' := ?_) #[true, true, true, true, true, true, true, true, true, true, true, true, true, true, true, true, false, true, true, true, false, false, false, false, true, false] rfl rfl (any_of HT_.out (by kernel_rfl)) (fun _ _ _ h => h) (Or.inl ⟨by rfl, ?_⟩) ?_ ?_
                 rotate_left
                 ·intro w'
                  go_simp
                  with_reducible rfl
                 rotate_left
                 ·simp only [Act.put, List.setIfInBounds_toArray, List.set_cons_zero, List.set_cons_succ, i64_w, i32_w]
                  rfl
                 refine take_ (i := 16) (N := some 122) (v := ?_) (a' := ?_) #[true, true, true, true, true, true, true, true, true, true, true, true, true, true, true, true, true, true, true, true, false, false, false, false, true, false] rfl rfl (take_ofW HT_.out HW_.out (by kernel_rfl)) (fun _ _ _ h => h) (Or.inl ⟨by rfl, ?_⟩) hHeld ?_ ?_
                 rotate_left
                 ·rintro w' ⟨s0, s1, s2, s3⟩
                  go_simp
                  with_reducible rfl
                 rotate_left
                 ·simp only [Act.put, List.setIfInBounds_toArray, List.set_cons_zero, List.set_cons_succ, i64_w, i32_w]
                  rfl
                 refine take_ (i := 20) (N := some 126) (v := ?_) (a' := ?_) #[true, true, true, true, true, true, true, true, true, true, true, true, true, true, true, true, true, true, true, true, true, false, false, false, true, false] rfl rfl (take_ofW HT_.out HW_.out (by kernel_rfl)) (fun _ _ _ h => h) (Or.inl ⟨by rfl, ?_⟩) hHeld ?_ ?_
                 rotate_left
                 ·rintro w' ⟨s0, s1, s2, s3⟩
                  go_simp
                  with_reducible rfl
                 rotate_left
                 ·simp only [Act.put, List.setIfInBounds_toArray, List.set_cons_zero, List.set_cons_succ, i64_w, i32_w]
                  rfl
                 refine pure_ (i := 21) (N := some 127) (v := ?_) (a' := ?_) #[true, true, true, true, true, true, true, true, true, true, true, true, true, true, true, true, true, true, true, true, true, true, false, false, true, false] rfl rfl (any_of HT_.out (by kernel_rfl)) (fun _ _ _ h => h) (Or.inl ⟨by rfl, ?_⟩) ?_ ?_
                 rotate_left
                 ·intro w'
                  go_simp
                  with_reducible rfl
                 rotate_left
                 ·simp only [Act.put, List.setIfInBounds_toArray, List.set_cons_zero, List.set_cons_succ, i64_w, i32_w]
                  rfl
                 refine pure_ (i := 22) (N := some 128) (v := ?_) (a' := ?_) #[true, true, true, true, true, true, true, true, true, true, true, true, true, true, true, true, true, true, true, true, true, true, true, false, true, false] rfl rfl (any_of HT_.out (by kernel_rfl)) (fun _ _ _ h => h) (Or.inl ⟨by rfl, ?_⟩) ?_ ?_
                 rotate_left
                 ·intro w'
                  go_simp
                  with_reducible rfl
                 rotate_left
                 ·simp only [Act.put, List.setIfInBounds_toArray, List.set_cons_zero, List.set_cons_succ, i64_w, i32_w]
                  rfl
                 refine pure_ (i := 23) (N := some 129) (v := ?_) (a' := ?_) #[true, true, true, true, true, true, true, true, true, true, true, true, true, true, true, true, true, true, true, true, true, true, true, true, true, false] rfl rfl (any_of HT_.out (by kernel_rfl)) (fun _ _ _ h => h) (Or.inl ⟨by rfl, ?_⟩) ?_ ?_
                 rotate_left
                 ·intro w'
                  go_simp
                  with_reducible rfl
                 rotate_left
                 ·simp only [Act.put, List.setIfInBounds_toArray, List.set_cons_zero, List.set_cons_succ, i64_w, i32_w]
                  rfl
                 refine pure_ (i := 25) (N := some 17) (v := ?_) (a' := ?_) #[true, true, true, true, true, true, true, true, true, true, true, true, true, true, true, true, true, true, true, true, true, true, true, true, true, true] rfl rfl (any_of HT_.out (by kernel_rfl)) (fun _ _ _ h => h) (Or.inl ⟨by rfl, ?_⟩) ?_ ?_
                 rotate_left
                 ·intro w'
                  go_simp
                  with_reducible rfl
                 rotate_left
                 ·simp only [Act.put, List.setIfInBounds_toArray, List.set_cons_zero, List.set_cons_succ, i64_w, i32_w]
                  rfl
                 refine done_ (done_of HT_.out (by kernel_rfl)) ?_
                 try go_wp2
                 go_roundg k3
                 case measure => have := HJ8.out; have := HJ68.out; have := HK3.out; omega
                 case rel => exact ⟨(Int.tmod (wrap64 (x16_3 + (wrap64 ((rd t916 x97_3) * (rd l3 x97_3))))) 1073741789), (Int.tmod (wrap64 (x17_3 + (wrap64 ((rd t916 x97_3) * (rd l4 x97_3))))) 1073741789), (wrap64 (x97_3 + 1)), (by first | rfl | (simp; done) | (simp [*]; done)), (by first | rfl | (simp; done) | (simp [*]; done)), (by first | rfl | (simp; done) | (simp [*]; done)), H', ⟨by have := HJ8.out; have := HJ68.out; have := HK3.out; omega⟩, ⟨by (with_reducible repeat (first | apply Kd.R_alloc | apply Kd.R_drewN | apply Kd.R_drew)); exact HO_13.out⟩, ⟨by (with_reducible repeat (first | refine blk_drewN ?_ _ | refine blk_drew ?_ | refine blk_alloc ?_ _)); exact BK908.out⟩, ⟨by repeat (first | (with_reducible first | exact HB.out | apply below_alloc | apply pw_below_drewN | apply below_drew1 | refine below_set ?_ GE908.out) | exact HB.out)⟩⟩
                ·rw [if_neg c82] at H
                 exact absurd H (by simp)
               ·rw [if_neg c81] at H
                exact absurd H (by simp)
              ·replace c80 := Bool.eq_false_iff.mpr c80
               subst c80
               have H1 : (none) = some r := by rw [if_neg (show ¬ (false = true) by decide)] at H; exact H
               clear H
               have H := H1
               clear H1
               exact absurd H (by simp)
             ·rw [if_neg c78] at H
              exact absurd H (by simp)
            ·rw [if_neg c77] at H
             exact absurd H (by simp)
           ·rw [if_neg c76] at H
            have c76b0 : decide (x97_3 < (l2.length : Int)) = false := decide_eq_false c76
            clear c76
            by_cases c84 : x16_3 = x17_3
            ·rw [if_pos c84] at H
             have c84b0 : (x16_3 == x17_3) = true := beq_iff_eq.mpr c84
             have c84b1 : (x16_3 != x17_3) = false := bne_eq_false_iff_eq.mpr c84
             clear c84
             replace H := Option.bind_eq_some_iff.mp H
             obtain ⟨t927, A850, H⟩ := H
             replace H : (signatorylaw40_RebuildHidden.l1 k3 l3 l4 t916 t927 0 l2 (l2.length : Int) 0) = some r := H
             have A85 := Aside0.mk A850
             clear A850
             have H' := Aside0.mk H
             clear H
             go_wp2_with (first | ((with_reducible refine gate_callee (f := 57) rfl ?_); refine goesL_ (some 137) rfl rfl Try.func57 (by kernel_rfl) rfl #[.int .i64 (l2.length : Int), .slice A5 l5.length c5] rfl (by (try simp only [List.map_toArray, List.map_cons, List.map_nil]); first | done | rfl | (simp only [List.length_drop, List.length_take]; rfl)) ?_; (with_reducible refine (signatorylaw40_masked.calls k3 (l2.length : Int) _ _ l5 t927 _ ?side1 ?side2 A85.out).mono ?_); (case side1 => repeat (first | exact (Kd.C_below HR5.out HB.out) | (with_reducible refine Kd.C_alloc ?_ _) | (with_reducible refine Kd.C_drewN ?_ _) | (with_reducible refine Kd.C_drew ?_))); (case side2 => exact HC5.out); rintro e w86 ⟨v928, rfl, ho0, hb⟩; refine ⟨_, rfl, ?_⟩; have n0_ := Aside0.mk (Kd.R_elder' (by (with_reducible repeat (first | apply Kd.R_alloc | apply Kd.R_drewN | apply Kd.R_drew)); exact HO_13.out) (Kd.R_base ho0) hb); have n1_ := Aside0.mk (Kd.R_lower (Kd.R_new' ho0 (Kd.R_lt (by (with_reducible repeat (first | apply Kd.R_alloc | apply Kd.R_drewN | apply Kd.R_drew)); exact HO_13.out))) (below_size (by repeat (first | (with_reducible first | exact HB.out | apply below_alloc | apply pw_below_drewN | apply below_drew1 | refine below_set ?_ GE908.out) | exact HB.out)))); have n2_ := Aside0.mk (blk_below (g := gb908) (o := .cells #[.slice A0_0 l0_0.length c0_0, .slice A0_1 l0_1.length c0_1] 25 (0, 0)) (by (with_reducible repeat (first | refine blk_drewN ?_ _ | refine blk_drew ?_ | refine blk_alloc ?_ _)); exact BK908.out) hb); have n3_ := Aside0.mk (below_step (by repeat (first | (with_reducible first | exact HB.out | apply below_alloc | apply pw_below_drewN | apply below_drew1 | refine below_set ?_ GE908.out) | exact HB.out)) hb); clear HO_13; clear BK908; clear HB; have HO_13 := n0_; have HO929 := n1_; have BK908 := n2_; have HB := n3_; clear n0_ n1_ n2_ n3_; (try clear hb); (try clear hb2); (try clear hk); (try clear hi); (try clear ho0)))
             go_loopg [20, 140] k3 (fun kq v20 v140 w' => ∃ (x20_4 : Int) (x140_4 : Int), v20 = .int .i64 x20_4 ∧ v140 = .int .i64 x140_4 ∧ Aside0 (signatorylaw40_RebuildHidden.l1 kq l3 l4 t916 t927 x20_4 l2 (l2.length : Int) x140_4 = some r) ∧ Aside0 (kq ≤ k3) ∧ Aside0 (Kd.R (Kd.int .i64) 3 w' w.heap.size (fun k_ => some k_ ≠ (v928 : Value).ownBlock) (.slice Ao75 t916.length co75) t916) ∧ Aside0 (Kd.R (Kd.int .i64) 3 w' w.heap.size (fun k_ => some k_ ≠ ((.slice Ao75 t916.length co75) : Value).ownBlock) v928 t927) ∧ Aside0 (w'.heap[gb908]? = some (.cells #[(.slice A0_0 l0_0.length c0_0), (.slice A0_1 l0_1.length c0_1)] 25 (0, 0))) ∧ Aside0 (Below w.heap.size w w'))
             case atStart => exact ⟨(0), (0), (by first | rfl | (simp; done) | (simp [*]; done)), (by first | rfl | (simp; done) | (simp [*]; done)), H', ⟨Nat.le_refl _⟩, ⟨by (with_reducible repeat (first | apply Kd.R_alloc | apply Kd.R_drewN | apply Kd.R_drew)); exact Kd.R_mono HO_13.out (fun _ hk => hk.2)⟩, ⟨by (with_reducible repeat (first | apply Kd.R_alloc | apply Kd.R_drewN | apply Kd.R_drew)); exact Kd.R_mono HO929.out (fun _ hk => hk.2)⟩, ⟨by (with_reducible repeat (first | refine blk_drewN ?_ _ | refine blk_drew ?_ | refine blk_alloc ?_ _)); exact BK908.out⟩, ⟨by repeat (first | (with_reducible first | exact HB.out | apply below_alloc | apply pw_below_drewN | apply below_drew1 | refine below_set ?_ GE908.out) | exact HB.out)⟩⟩
             case round =>
              clear H'
              try clear c1
              try clear c2
              try clear p2
              try clear c3
              try clear c4
              try clear c5
              try clear c6
              try clear p6
              try clear c7
              try clear c8
              try clear p9
              try clear q9
              try clear hx9
              try clear c11
              try clear c13
              try clear c15
              try clear c15b0
              try clear c15b1
              try clear c17
              try clear c18
              try clear c18b0
              try clear c18b1
              try clear c18b2
              try clear c19
              try clear c19b0
              try clear c19b1
              try clear c19b2
              try clear c21
              try clear c23
              try clear c38
              try clear c39
              try clear c40
              try clear c57
              try clear c60
              try clear p64
              try clear c67
              try clear c72
              try clear c72b0
              try clear c72b1
              try clear c73
              try clear c74
              try clear c74b0
              try clear c74b1
              try clear c74b2
              try clear c76
              try clear c76b0
              try clear c77
              try clear c77b0
              try clear c78
              try clear c78b0
              try clear c80
              try clear c81
              try clear c81b0
              try clear c82
              try clear c82b0
              try clear c84
              try clear c84b0
              try clear c84b1
              try clear hcz25_0
              try clear hcz25_1
              try clear hcz27_0
              try clear hcz27_1
              try clear hcz29_0
              try clear hcz29_1
              try clear hcz31_0
              try clear hcz31_1
              try clear hcz33_0
              try clear hcz33_1
              try clear hcz35_0
              try clear hcz35_1
              try clear hcz37_0
              try clear hcz37_1
              try clear hcz39_0
              try clear hcz39_1
              try clear hcz41_0
              try clear hcz41_1
              try clear hcz43_0
              try clear hcz43_1
              try clear hcz45_0
              try clear hcz45_1
              try clear hcz47_0
              try clear hcz47_1
              try clear hcz49_0
              try clear hcz49_1
              try clear hcz51_0
              try clear hcz51_1
              try clear hcz53_0
              try clear hcz53_1
              try clear hcz55_0
              try clear hcz55_1
              try clear hcz57_0
              try clear hcz57_1
              try clear hcz59_0
              try clear hcz59_1
              try clear hcz61_0
              try clear hcz61_1
              try clear hcz63_0
              try clear hcz63_1
              try clear hcz65_0
              try clear hcz65_1
              try clear hcz70_0
              try clear hcz70_1
              try clear hfz25_0
              try clear hfz25_1
              try clear hfz27_0
              try clear hfz27_1
              try clear hfz29_0
              try clear hfz29_1
              try clear hfz31_0
              try clear hfz31_1
              try clear hfz33_0
              try clear hfz33_1
              try clear hfz35_0
              try clear hfz35_1
              try clear hfz37_0
              try clear hfz37_1
              try clear hfz39_0
              try clear hfz39_1
              try clear hfz41_0
              try clear hfz41_1
              try clear hfz43_0
              try clear hfz43_1
              try clear hfz45_0
              try clear hfz45_1
              try clear hfz47_0
              try clear hfz47_1
              try clear hfz49_0
              try clear hfz49_1
              try clear hfz51_0
              try clear hfz51_1
              try clear hfz53_0
              try clear hfz53_1
              try clear hfz55_0
              try clear hfz55_1
              try clear hfz57_0
              try clear hfz57_1
              try clear hfz59_0
              try clear hfz59_1
              try clear hfz61_0
              try clear hfz61_1
              try clear hfz63_0
              try clear hfz63_1
              try clear hfz65_0
              try clear hfz65_1
              try clear hfz70_0
              try clear hfz70_1
              try clear hx921_0
              try clear hx923_0
              try clear hx924_0
              try clear hx925_0
              try clear hx926_0
              try clear p2
              try clear p921
              try clear p923
              try clear p924
              try clear p925
              try clear p926
              try clear q921
              try clear q923
              try clear q924
              try clear q925
              try clear q926
              obtain ⟨x20_4, x140_4, rfl, rfl, HA, HK4, HO_13, HO_19, BK908, HB⟩ := hrel
              cases gk with
              | zero => exact absurd HA.out (by simp [signatorylaw40_RebuildHidden.l1])
              | succ k4 =>
               have H := HA.out
               clear HA
               simp only [signatorylaw40_RebuildHidden.l1] at H
               by_cases c87 : x140_4 < (l2.length : Int)
               ·rw [if_pos c87] at H
                have c87b0 : decide (x140_4 < (l2.length : Int)) = true := decide_eq_true c87
                clear c87
                by_cases c88 : 0 ≤ x140_4
                ·rw [if_pos c88] at H
                 have c88b0 : decide (0 ≤ x140_4) = true := decide_eq_true c88
                 clear c88
                 by_cases c89 : x140_4 < (l2.length : Int)
                 ·rw [if_pos c89] at H
                  have c89b0 : decide (x140_4 < (l2.length : Int)) = true := decide_eq_true c89
                  clear c89
                  by_cases c90 : x140_4 < (t916.length : Int)
                  ·rw [if_pos c90] at H
                   have c90b0 : decide (x140_4 < (t916.length : Int)) = true := decide_eq_true c90
                   clear c90
                   by_cases c91 : x140_4 < (l3.length : Int)
                   ·rw [if_pos c91] at H
                    have c91b0 : decide (x140_4 < (l3.length : Int)) = true := decide_eq_true c91
                    clear c91
                    have c92b0 := eq_true (of_decide_eq_true (by first | (with_reducible assumption) | assumption) : 0 ≤ x140_4)
                    by_cases c93 : x140_4 ≤ (wrap64 (x140_4 + 1))
                    ·rw [if_pos c93] at H
                     have c93b0 := eq_true c93
                     have c93b1 : decide (x140_4 ≤ (wrap64 (x140_4 + 1))) = true := decide_eq_true c93
                     by_cases c94 : (wrap64 (x140_4 + 1)) ≤ (t927.length : Int)
                     ·rw [if_pos c94] at H
                      have c94b0 := eq_true c94
                      have c94b1 : decide ((wrap64 (x140_4 + 1)) ≤ (t927.length : Int)) = true := decide_eq_true c94
                      obtain ⟨y933, hy933⟩ : ∃ y_ : List Int, y_ = ((t927.take ((wrap64 (x140_4 + 1)) : Int).toNat).drop (x140_4 : Int).toNat) := ⟨_, rfl⟩
                      replace H : ((rebuild_Part.f (rd t916 x140_4) (rd l2 x140_4) (rd l3 x140_4) y933).bind fun bt937 => (if bt937.2 = 0 then ((signatoryref40_Number.f bt937.1).bind fun t939 => (if t939 = true then (if x140_4 < (l4.length : Int) then ((rebuild_Part.f (rd t916 x140_4) (rd l2 x140_4) (rd l4 x140_4) (([Int.tmod (wrap64 ((wrap64 (bt937.1 - (Int.tmod (wrap64 ((rd t916 x140_4) * (rd l4 x140_4))) 1073741789))) + 1073741789)) 1073741789] : List Int))).bind fun bt947 => (if bt947.2 = 0 then (if bt947.1 = bt937.1 then (signatorylaw40_RebuildHidden.l1 k4 l3 l4 t916 t927 (Int.tmod (wrap64 (x20_4 + (Int.tmod (wrap64 ((wrap64 (bt937.1 - (Int.tmod (wrap64 ((rd t916 x140_4) * (rd l4 x140_4))) 1073741789))) + 1073741789)) 1073741789))) 1073741789) l2 (l2.length : Int) (wrap64 (x140_4 + 1))) else (none)) else (none))) else (none)) else (none))) else (none))) = some r := by first | (rw [hy933]; with_reducible exact H) | (have H2_ := (Option.bind_some _ _).symm.trans H; rw [hy933]; with_reducible exact H2_) | (have H2_ := (Option.bind_some _ _).symm.trans H; with_reducible exact H2_) | with_reducible exact H | (rw [hy933]; exact H) | exact H
                      have Ny933 := Aside0.mk hy933
                      clear hy933
                      replace H := Option.bind_eq_some_iff.mp H
                      obtain ⟨⟨t937, t938⟩, A950, H⟩ := H
                      replace H : (if t938 = 0 then ((signatoryref40_Number.f t937).bind fun t939 => (if t939 = true then (if x140_4 < (l4.length : Int) then ((rebuild_Part.f (rd t916 x140_4) (rd l2 x140_4) (rd l4 x140_4) (([Int.tmod (wrap64 ((wrap64 (t937 - (Int.tmod (wrap64 ((rd t916 x140_4) * (rd l4 x140_4))) 1073741789))) + 1073741789)) 1073741789] : List Int))).bind fun bt947 => (if bt947.2 = 0 then (if bt947.1 = t937 then (signatorylaw40_RebuildHidden.l1 k4 l3 l4 t916 t927 (Int.tmod (wrap64 (x20_4 + (Int.tmod (wrap64 ((wrap64 (t937 - (Int.tmod (wrap64 ((rd t916 x140_4) * (rd l4 x140_4))) 1073741789))) + 1073741789)) 1073741789))) 1073741789) l2 (l2.length : Int) (wrap64 (x140_4 + 1))) else (none)) else (none))) else (none)) else (none))) else (none)) = some r := H
                      have A95 := Aside0.mk A950
                      clear A950
                      by_cases c96 : t938 = 0
                      ·rw [if_pos c96] at H
                       have c96b0 : (t938 == 0) = true := beq_iff_eq.mpr c96
                       have c96b1 : (t938 != 0) = false := bne_eq_false_iff_eq.mpr c96
                       clear c96
                       replace H := Option.bind_eq_some_iff.mp H
                       obtain ⟨t939, A970, H⟩ := H
                       replace H : (if t939 = true then (if x140_4 < (l4.length : Int) then ((rebuild_Part.f (rd t916 x140_4) (rd l2 x140_4) (rd l4 x140_4) (([Int.tmod (wrap64 ((wrap64 (t937 - (Int.tmod (wrap64 ((rd t916 x140_4) * (rd l4 x140_4))) 1073741789))) + 1073741789)) 1073741789] : List Int))).bind fun bt947 => (if bt947.2 = 0 then (if bt947.1 = t937 then (signatorylaw40_RebuildHidden.l1 k4 l3 l4 t916 t927 (Int.tmod (wrap64 (x20_4 + (Int.tmod (wrap64 ((wrap64 (t937 - (Int.tmod (wrap64 ((rd t916 x140_4) * (rd l4 x140_4))) 1073741789))) + 1073741789)) 1073741789))) 1073741789) l2 (l2.length : Int) (wrap64 (x140_4 + 1))) else (none)) else (none))) else (none)) else (none)) = some r := H
                       have A97 := Aside0.mk A970
                       clear A970
                       by_cases c98 : t939 = true
                       ·subst c98
                        have H1 : (if x140_4 < (l4.length : Int) then ((rebuild_Part.f (rd t916 x140_4) (rd l2 x140_4) (rd l4 x140_4) (([Int.tmod (wrap64 ((wrap64 (t937 - (Int.tmod (wrap64 ((rd t916 x140_4) * (rd l4 x140_4))) 1073741789))) + 1073741789)) 1073741789] : List Int))).bind fun bt947 => (if bt947.2 = 0 then (if bt947.1 = t937 then (signatorylaw40_RebuildHidden.l1 k4 l3 l4 t916 t927 (Int.tmod (wrap64 (x20_4 + (Int.tmod (wrap64 ((wrap64 (t937 - (Int.tmod (wrap64 ((rd t916 x140_4) * (rd l4 x140_4))) 1073741789))) + 1073741789)) 1073741789))) 1073741789) l2 (l2.length : Int) (wrap64 (x140_4 + 1))) else (none)) else (none))) else (none)) = some r := by rw [if_pos rfl] at H; exact H
                        clear H
                        have H := H1
                        clear H1
                        by_cases c99 : x140_4 < (l4.length : Int)
                        ·rw [if_pos c99] at H
                         have c99b0 : decide (x140_4 < (l4.length : Int)) = true := decide_eq_true c99
                         clear c99
                         obtain ⟨y944, hy944⟩ : ∃ y_ : List Int, y_ = (([Int.tmod (wrap64 ((wrap64 (t937 - (Int.tmod (wrap64 ((rd t916 x140_4) * (rd l4 x140_4))) 1073741789))) + 1073741789)) 1073741789] : List Int)) := ⟨_, rfl⟩
                         replace H : ((rebuild_Part.f (rd t916 x140_4) (rd l2 x140_4) (rd l4 x140_4) y944).bind fun bt947 => (if bt947.2 = 0 then (if bt947.1 = t937 then (signatorylaw40_RebuildHidden.l1 k4 l3 l4 t916 t927 (Int.tmod (wrap64 (x20_4 + (Int.tmod (wrap64 ((wrap64 (t937 - (Int.tmod (wrap64 ((rd t916 x140_4) * (rd l4 x140_4))) 1073741789))) + 1073741789)) 1073741789))) 1073741789) l2 (l2.length : Int) (wrap64 (x140_4 + 1))) else (none)) else (none))) = some r := by first | (rw [hy944]; with_reducible exact H) | (have H2_ := (Option.bind_some _ _).symm.trans H; rw [hy944]; with_reducible exact H2_) | (have H2_ := (Option.bind_some _ _).symm.trans H; with_reducible exact H2_) | with_reducible exact H | (rw [hy944]; exact H) | exact H
                         have Ny944 := Aside0.mk hy944
                         clear hy944
                         replace H := Option.bind_eq_some_iff.mp H
                         obtain ⟨⟨t947, t948⟩, A1000, H⟩ := H
                         replace H : (if t948 = 0 then (if t947 = t937 then (signatorylaw40_RebuildHidden.l1 k4 l3 l4 t916 t927 (Int.tmod (wrap64 (x20_4 + (Int.tmod (wrap64 ((wrap64 (t937 - (Int.tmod (wrap64 ((rd t916 x140_4) * (rd l4 x140_4))) 1073741789))) + 1073741789)) 1073741789))) 1073741789) l2 (l2.length : Int) (wrap64 (x140_4 + 1))) else (none)) else (none)) = some r := H
                         have A100 := Aside0.mk A1000
                         clear A1000
                         by_cases c101 : t948 = 0
                         ·rw [if_pos c101] at H
                          have c101b0 : (t948 == 0) = true := beq_iff_eq.mpr c101
                          have c101b1 : (t948 != 0) = false := bne_eq_false_iff_eq.mpr c101
                          clear c101
                          by_cases c102 : t947 = t937
                          ·rw [if_pos c102] at H
                           have c102b0 : (t947 == t937) = true := beq_iff_eq.mpr c102
                           have c102b1 : (t947 != t937) = false := bne_eq_false_iff_eq.mpr c102
                           clear c102
                           have H' := Aside0.mk H
                           clear H
                           have p930 : 0 ≤ (x140_4 : Int) := of_decide_eq_true (by first | (with_reducible assumption) | assumption)
                           have q930 : x140_4 < (l2.length : Int) := of_decide_eq_true (by first | (with_reducible assumption) | assumption)
                           obtain ⟨ad930, e930, hx930_0⟩ := Kd.at_int HR2.out x140_4 p930 q930
                           cases e930
                           replace hx930_0 := (HB.out.cell (World.block_lt_of_cell? w _ hx930_0)).trans hx930_0
                           replace p930 := eq_true p930
                           replace q930 := eq_true q930
                           try go_wp2
                           have n0_ := Aside0.mk (Kd.R_drew HO_13.out)
                           have n1_ := Aside0.mk (Kd.R_drew HO_19.out)
                           have n2_ := Aside0.mk (blk_drew BK908.out)
                           have n3_ := Aside0.mk (below_drew1 HB.out)
                           clear HO_13
                           clear HO_19
                           clear BK908
                           clear HB
                           have HO_13 := n0_
                           have HO_19 := n1_
                           have BK908 := n2_
                           have HB := n3_
                           clear n0_ n1_ n2_ n3_
                           have p931 : 0 ≤ (x140_4 : Int) := of_decide_eq_true (by first | (with_reducible assumption) | assumption)
                           have q931 : x140_4 < (t916.length : Int) := of_decide_eq_true (by first | (with_reducible assumption) | assumption)
                           obtain ⟨ad931, e931, hx931_0⟩ := Kd.at_int (Kd.R_reads' HO_13.out).2.2 x140_4 p931 q931
                           cases e931
                           replace p931 := eq_true p931
                           replace q931 := eq_true q931
                           have p932 : 0 ≤ (x140_4 : Int) := of_decide_eq_true (by first | (with_reducible assumption) | assumption)
                           have q932 : x140_4 < (l3.length : Int) := of_decide_eq_true (by first | (with_reducible assumption) | assumption)
                           obtain ⟨ad932, e932, hx932_0⟩ := Kd.at_int HR3.out x140_4 p932 q932
                           have hw932_0 := hx932_0
                           cases e932
                           replace hx932_0 := (HB.out.cell (World.block_lt_of_cell? w _ hx932_0)).trans hx932_0
                           replace p932 := eq_true p932
                           replace q932 := eq_true q932
                           obtain ⟨Ao105, co105, eo105⟩ := Kd.R_slice HO_19.out
                           (first | subst eo105 | (injection eo105 with f1_ f2_ f3_; have f4_ := f1_.symm; have f5_ := f3_.symm; clear f1_ f2_ f3_; subst f4_; subst f5_))
                           have q104 : ((wrap64 (x140_4 + 1)) : Int) ≤ ((t927.length : Int) : Int) := of_decide_eq_true (by first | (with_reducible assumption) | assumption)
                           obtain ⟨i0104, hi0104, _, hsz104, _⟩ := info_parts info3
                           have hroom104 : t927.length ≤ co105 := (Kd.R_reads' HO_19.out).2.1
                           have hC104 : Kd.C (Kd.int .i64) _ Ao105 t927.length t927 := (Kd.R_reads' HO_19.out).2.2
                           have ql104 : (x140_4 : Int) ≤ ((wrap64 (x140_4 + 1)) : Int) := of_decide_eq_true (by first | (with_reducible assumption) | assumption)
                           have q0104 : (0 : Int) ≤ (x140_4 : Int) := of_decide_eq_true (by first | (with_reducible assumption) | assumption)
                           have hcut104 := cut_mid (P := Try.prog) 23 3 .i64 .i64 Try.underlying23 hi0104 1 hsz104 Ao105 t927.length co105 x140_4 (wrap64 (x140_4 + 1)) q0104 ql104 q104 hroom104
                           have hr104 := Kd.C_mid (lo := (x140_4 : Int).toNat) (hi := ((wrap64 (x140_4 + 1)) : Int).toNat) (c := co105) hC104 (by omega) (by omega) hroom104
                           obtain ⟨A104, hA104⟩ : ∃ A1, A1 = (if co105 = (x140_4 : Int).toNat then Ao105 else (Ao105 : Option Addr).map (·.add ((x140_4 : Int).toNat * 1))) := ⟨_, rfl⟩
                           obtain ⟨c104, hc104⟩ : ∃ c1, c1 = co105 - (x140_4 : Int).toNat := ⟨_, rfl⟩
                           have hy104 : y933.length = ((wrap64 (x140_4 + 1)) : Int).toNat - (x140_4 : Int).toNat := (by rw [Ny933.out, List.length_drop, List.length_take] <;> omega)
                           rw [show ((t927).take ((wrap64 (x140_4 + 1)) : Int).toNat).drop (x140_4 : Int).toNat = y933 from Ny933.out.symm] at hr104
                           replace hr104 : Kd.C (Kd.int .i64) _ A104 y933.length y933 := (by rw [hA104]; exact hr104)
                           rw [← hy104, ← hA104, ← hc104] at hcut104
                           have HR936 := Aside0.mk hr104
                           have HC936 := Aside0.mk (show y933.length ≤ c104 from by rw [hy104, hc104]; exact Nat.sub_le_sub_right (Nat.le_trans (by omega) hroom104) _)
                           clear hr104 hC104 hroom104 hi0104 hsz104 hc104
                           have KY104 := Aside0.mk hy104
                           have KA104 := Aside0.mk hA104
                           clear hy104 hA104
                           have KL104 := Aside0.mk (show ((wrap64 (x140_4 + 1)) : Int).toNat ≤ t927.length from by omega)
                           have KM104 := Aside0.mk (show (x140_4 : Int).toNat ≤ ((wrap64 (x140_4 + 1)) : Int).toNat from by omega)
                           replace q104 := eq_true q104
                           refine start_ (n := 21) (S := fun w' => w'.cell? (ad931.add (x140_4).toNat) = some (.int .i64 (rd t916 x140_4)) ∧ w'.cell? (ad932.add (x140_4).toNat) = some (.int .i64 (rd l3 x140_4))) (ds := []) #[false, false, false, false, false, false, false, false, false, false, false, false, false, false, false, false, false, false, false, false, false] (by kernel_rfl) rfl rfl ⟨hx931_0, ((HB.out.cell (World.block_lt_of_cell? w _ hw932_0)).trans hw932_0)⟩ (fun hHeld => ?_); refine with_tabW signatorylaw40_RebuildHidden.tab24 signatorylaw40_RebuildHidden.bits24 (fun HT_ HW_ => ?_)
                           generalize wr.drew = w103 at HO_13 HO_19 BK908 HB HR936 hx931_0 hx932_0 hHeld ⊢
                           refine pure_ (i := 0) (N := some 146) (v := ?_) (a' := ?_) #[true, false, false, false, false, false, false, false, false, false, false, false, false, false, false, false, false, false, false, false, false] rfl rfl (any_of HT_.out (by kernel_rfl)) (fun _ _ _ h => h) (Or.inl ⟨by rfl, ?_⟩) ?_ ?_
                           rotate_left
                           ·intro w'
                            go_simp
                            with_reducible rfl
                           rotate_left
                           ·simp only [Act.put, List.setIfInBounds_toArray, List.set_cons_zero, List.set_cons_succ, i64_w, i32_w]
                            rfl
                           refine pure_ (i := 1) (N := some 147) (v := ?_) (a' := ?_) #[true, true, false, false, false, false, false, false, false, false, false, false, false, false, false, false, false, false, false, false, false] rfl rfl (any_of HT_.out (by kernel_rfl)) (fun _ _ _ h => h) (Or.inl ⟨by rfl, ?_⟩) ?_ ?_
                           rotate_left
                           ·intro w'
                            go_simp
                            with_reducible rfl
                           rotate_left
                           ·simp only [Act.put, List.setIfInBounds_toArray, List.set_cons_zero, List.set_cons_succ, i64_w, i32_w]
                            rfl
                           refine pure_ (i := 2) (N := some 148) (v := ?_) (a' := ?_) #[true, true, true, false, false, false, false, false, false, false, false, false, false, false, false, false, false, false, false, false, false] rfl rfl (any_of HT_.out (by kernel_rfl)) (fun _ _ _ h => h) (Or.inl ⟨by rfl, ?_⟩) ?_ ?_
                           rotate_left
                           ·intro w'
                            go_simp
                            with_reducible rfl
                           rotate_left
                           ·simp only [Act.put, List.setIfInBounds_toArray, List.set_cons_zero, List.set_cons_succ, i64_w, i32_w]
                            rfl
                           refine pure_ (i := 4) (N := some 150) (v := ?_) (a' := ?_) #[true, true, true, false, true, false, false, false, false, false, false, false, false, false, false, false, false, false, false, false, false] rfl rfl (any_of HT_.out (by kernel_rfl)) (fun _ _ _ h => h) (Or.inl ⟨by rfl, ?_⟩) ?_ ?_
                           rotate_left
                           ·intro w'
                            go_simp
                            with_reducible rfl
                           rotate_left
                           ·simp only [Act.put, List.setIfInBounds_toArray, List.set_cons_zero, List.set_cons_succ, i64_w, i32_w]
                            rfl
                           refine pure_ (i := 5) (N := some 151) (v := ?_) (a' := ?_) #[true, true, true, false, true, true, false, false, false, false, false, false, false, false, false, false, false, false, false, false, false] rfl rfl (any_of HT_.out (by kernel_rfl)) (fun _ _ _ h => h) (Or.inl ⟨by rfl, ?_⟩) ?_ ?_
                           rotate_left
                           ·intro w'
                            go_simp
                            with_reducible rfl
                           rotate_left
                           ·simp only [Act.put, List.setIfInBounds_toArray, List.set_cons_zero, List.set_cons_succ, i64_w, i32_w]
                            rfl
                           refine pure_ (i := 6) (N := some 152) (v := ?_) (a' := ?_) #[true, true, true, false, true, true, true, false, false, false, false, false, false, false, false, false, false, false, false, false, false] rfl rfl (any_of HT_.out (by kernel_rfl)) (fun _ _ _ h => h) (Or.inl ⟨by rfl, ?_⟩) ?_ ?_
                           rotate_left
                           ·intro w'
                            go_simp
                            with_reducible rfl
                           rotate_left
                           ·simp only [Act.put, List.setIfInBounds_toArray, List.set_cons_zero, List.set_cons_succ, i64_w, i32_w]
                            rfl
                           refine pure_ (i := 7) (N := some 153) (v := ?_) (a' := ?_) #[true, true, true, false, true, true, true, true, false, false, false, false, false, false, false, false, false, false, false, false, false] rfl rfl (any_of HT_.out (by kernel_rfl)) (fun _ _ _ h => h) (Or.inl ⟨by rfl, ?_⟩) ?_ ?_
                           rotate_left
                           ·intro w'
                            go_simp
                            with_reducible rfl
                           rotate_left
                           ·simp only [Act.put, List.setIfInBounds_toArray, List.set_cons_zero, List.set_cons_succ, i64_w, i32_w]
                            rfl
                           refine pure_ (i := 10) (N := some 156) (v := ?_) (a' := ?_) #[true, true, true, false, true, true, true, true, false, false, true, false, false, false, false, false, false, false, false, false, false] rfl rfl (any_of HT_.out (by kernel_rfl)) (fun _ _ _ h => h) (Or.inl ⟨by rfl, ?_⟩) ?_ ?_
                           rotate_left
                           ·intro w'
                            go_simp
                            with_reducible rfl
                           rotate_left
                           ·simp only [Act.put, List.setIfInBounds_toArray, List.set_cons_zero, List.set_cons_succ, i64_w, i32_w]
                            rfl
                           refine pure_ (i := 11) (N := some 157) (v := ?_) (a' := ?_) #[true, true, true, false, true, true, true, true, false, false, true, true, false, false, false, false, false, false, false, false, false] rfl rfl (any_of HT_.out (by kernel_rfl)) (fun _ _ _ h => h) (Or.inl ⟨by rfl, ?_⟩) ?_ ?_
                           rotate_left
                           ·intro w'
                            go_simp
                            with_reducible rfl
                           rotate_left
                           ·simp only [Act.put, List.setIfInBounds_toArray, List.set_cons_zero, List.set_cons_succ, i64_w, i32_w]
                            rfl
                           refine pure_ (i := 12) (N := some 158) (v := ?_) (a' := ?_) #[true, true, true, false, true, true, true, true, false, false, true, true, true, false, false, false, false, false, false, false, false] rfl rfl (any_of HT_.out (by kernel_rfl)) (fun _ _ _ h => h) (Or.inl ⟨by rfl, ?_⟩) ?_ ?_
                           rotate_left
                           ·intro w'
                            go_simp
                            with_reducible rfl
                           rotate_left
                           ·simp only [Act.put, List.setIfInBounds_toArray, List.set_cons_zero, List.set_cons_succ, i64_w, i32_w]
                            rfl
                           refine pure_ (i := 13) (N := some 159) (v := ?_) (a' := ?_) #[true, true, true, false, true, true, true, true, false, false, true, true, true, true, false, false, false, false, false, false, false] rfl rfl (any_of HT_.out (by kernel_rfl)) (fun _ _ _ h => h) (Or.inl ⟨by rfl, ?_⟩) ?_ ?_
                           rotate_left
                           ·intro w'
                            go_simp
                            with_reducible rfl
                           rotate_left
                           ·simp only [Act.put, List.setIfInBounds_toArray, List.set_cons_zero, List.set_cons_succ, i64_w, i32_w]
                            rfl
                           refine pure_ (i := 14) (N := some 160) (v := ?_) (a' := ?_) #[true, true, true, false, true, true, true, true, false, false, true, true, true, true, true, false, false, false, false, false, false] rfl rfl (any_of HT_.out (by kernel_rfl)) (fun _ _ _ h => h) (Or.inl ⟨by rfl, ?_⟩) ?_ ?_
                           rotate_left
                           ·intro w'
                            go_simp
                            with_reducible rfl
                           rotate_left
                           ·simp only [Act.put, List.setIfInBounds_toArray, List.set_cons_zero, List.set_cons_succ, i64_w, i32_w]
                            rfl
                           refine take_ (i := 3) (N := some 149) (v := ?_) (a' := ?_) #[true, true, true, true, true, true, true, true, false, false, true, true, true, true, true, false, false, false, false, false, false] rfl rfl (take_ofW HT_.out HW_.out (by kernel_rfl)) (fun _ _ _ h => h) (Or.inl ⟨by rfl, ?_⟩) hHeld ?_ ?_
                           rotate_left
                           ·rintro w' ⟨s0, s1⟩
                            go_simp
                            with_reducible rfl
                           rotate_left
                           ·simp only [Act.put, List.setIfInBounds_toArray, List.set_cons_zero, List.set_cons_succ, i64_w, i32_w]
                            rfl
                           refine take_ (i := 8) (N := some 154) (v := ?_) (a' := ?_) #[true, true, true, true, true, true, true, true, true, false, true, true, true, true, true, false, false, false, false, false, false] rfl rfl (take_ofW HT_.out HW_.out (by kernel_rfl)) (fun _ _ _ h => h) (Or.inl ⟨by rfl, ?_⟩) hHeld ?_ ?_
                           rotate_left
                           ·rintro w' ⟨s0, s1⟩
                            go_simp
                            with_reducible rfl
                           rotate_left
                           ·simp only [Act.put, List.setIfInBounds_toArray, List.set_cons_zero, List.set_cons_succ, i64_w, i32_w]
                            rfl
                           refine pure_ (i := 9) (N := some 155) (v := ?_) (a' := ?_) #[true, true, true, true, true, true, true, true, true, true, true, true, true, true, true, false, false, false, false, false, false] rfl rfl (any_of HT_.out (by kernel_rfl)) (fun _ _ _ h => h) (Or.inl ⟨by rfl, ?_⟩) ?_ ?_
                           rotate_left
                           ·intro w'
                            go_simp
                            with_reducible rfl
                           rotate_left
                           ·simp only [Act.put, List.setIfInBounds_toArray, List.set_cons_zero, List.set_cons_succ, i64_w, i32_w]
                            rfl
                           refine one_ (i := 15) (N := some 161) #[true, true, true, true, true, true, true, true, true, true, true, true, true, true, true, true, false, false, false, false, false] rfl rfl (one_of HT_.out (by kernel_rfl)) (by decide) (fun K hK => ?_)
                           refine goes_ Try.func42 (by kernel_rfl) rfl #[.int .i64 (rd t916 x140_4), .agg #[.int .i64 (rd l2 x140_4), .int .i64 (rd l3 x140_4)], .slice A104 y933.length c104] (by rfl) rfl rfl (by (try simp only [List.map_toArray, List.map_cons, List.map_nil]); first | done | rfl | (simp only [List.length_drop, List.length_take]; rfl)) ?_
                           with_reducible refine (rebuild_Part.calls (rd t916 x140_4) (rd l2 x140_4) (rd l3 x140_4) _ _ y933 t937 t938 _ ?side1 ?side2 A95.out).mono ?_
                           (case side1 => repeat (first | exact (by repeat (first | (with_reducible exact HR936.out) | (with_reducible refine Kd.C_alloc ?_ _) | (with_reducible refine Kd.C_drewN ?_ _) | (with_reducible refine Kd.C_drew ?_) | exact HR936.out)) | (with_reducible refine Kd.C_alloc ?_ _) | (with_reducible refine Kd.C_drewN ?_ _) | (with_reducible refine Kd.C_drew ?_)))
                           (case side2 => exact HC936.out)
                           rintro e w106 ⟨rfl, hb⟩
                           have HS0_ := (hb.cell (World.block_lt_of_cell? _ _ (hHeld.1))).trans (hHeld.1)
                           refine ⟨_, rfl, ?_⟩
                           have n0_ := Aside0.mk (Kd.R_below (by (with_reducible repeat (first | apply Kd.R_alloc | apply Kd.R_drewN | apply Kd.R_drew)); exact HO_13.out) hb)
                           have n1_ := Aside0.mk (Kd.R_below (by (with_reducible repeat (first | apply Kd.R_alloc | apply Kd.R_drewN | apply Kd.R_drew)); exact HO_19.out) hb)
                           have n2_ := Aside0.mk (blk_below (g := gb908) (o := .cells #[.slice A0_0 l0_0.length c0_0, .slice A0_1 l0_1.length c0_1] 25 (0, 0)) (by (with_reducible repeat (first | refine blk_drewN ?_ _ | refine blk_drew ?_ | refine blk_alloc ?_ _)); exact BK908.out) hb)
                           have n3_ := Aside0.mk (Kd.C_below (by repeat (first | (with_reducible exact HR936.out) | (with_reducible refine Kd.C_alloc ?_ _) | (with_reducible refine Kd.C_drewN ?_ _) | (with_reducible refine Kd.C_drew ?_) | exact HR936.out)) hb)
                           have n4_ := Aside0.mk (below_step (by repeat (first | (with_reducible first | exact HB.out | apply below_alloc | apply pw_below_drewN | apply below_drew1 | refine below_set ?_ GE908.out) | exact HB.out)) hb)
                           clear HO_13
                           clear HO_19
                           clear BK908
                           clear HR936
                           clear HB
                           have HO_13 := n0_
                           have HO_19 := n1_
                           have BK908 := n2_
                           have HR936 := n3_
                           have HB := n4_
                           clear n0_ n1_ n2_ n3_ n4_
                           (try clear hb)
                           (try clear hb2)
                           (try clear hk)
                           (try clear hi)
                           refine hK.out _ _ ⟨HS0_, ((HB.out.cell (World.block_lt_of_cell? w _ hw932_0)).trans hw932_0)⟩ (fun hHeld => ?_)
                           clear hK K
                           refine norm_ (a' := ?_) ?_ ?_
                           rotate_left
                           ·show Act.put _ (some 161) _ = _
                            simp only [Act.put, List.setIfInBounds_toArray, List.set_cons_zero, List.set_cons_succ, i64_w, i32_w]
                            rfl
                           refine pure_ (i := 16) (N := some 145) (v := ?_) (a' := ?_) #[true, true, true, true, true, true, true, true, true, true, true, true, true, true, true, true, true, false, false, false, false] rfl rfl (any_of HT_.out (by kernel_rfl)) (fun _ _ _ h => h) (Or.inl ⟨by rfl, ?_⟩) ?_ ?_
                           rotate_left
                           ·intro w'
                            go_simp
                            with_reducible rfl
                           rotate_left
                           ·simp only [Act.put, List.setIfInBounds_toArray, List.set_cons_zero, List.set_cons_succ, i64_w, i32_w]
                            rfl
                           refine pure_ (i := 17) (N := some 162) (v := ?_) (a' := ?_) #[true, true, true, true, true, true, true, true, true, true, true, true, true, true, true, true, true, true, false, false, false] rfl rfl (any_of HT_.out (by kernel_rfl)) (fun _ _ _ h => h) (Or.inl ⟨by rfl, ?_⟩) ?_ ?_
                           rotate_left
                           ·intro w'
                            go_simp
                            with_reducible rfl
                           rotate_left
                           ·simp only [Act.put, List.setIfInBounds_toArray, List.set_cons_zero, List.set_cons_succ, i64_w, i32_w]
                            rfl
                           refine pure_ (i := 18) (N := some 163) (v := ?_) (a' := ?_) #[true, true, true, true, true, true, true, true, true, true, true, true, true, true, true, true, true, true, true, false, false] rfl rfl (any_of HT_.out (by kernel_rfl)) (fun _ _ _ h => h) (Or.inl ⟨by rfl, ?_⟩) ?_ ?_
                           rotate_left
                           ·intro w'
                            go_simp
                            with_reducible rfl
                           rotate_left
                           ·simp only [Act.put, List.setIfInBounds_toArray, List.set_cons_zero, List.set_cons_succ, i64_w, i32_w]
                            rfl
                           refine pure_ (i := 19) (N := some 23) (v := ?_) (a' := ?_) #[true, true, true, true, true, true, true, true, true, true, true, true, true, true, true, true, true, true, true, true, false] rfl rfl (any_of HT_.out (by kernel_rfl)) (fun _ _ _ h => h) (Or.inl ⟨by rfl, ?_⟩) ?_ ?_
                           rotate_left
                           ·intro w'
                            go_simp
                            with_reducible rfl
                           rotate_left
                           ·simp only [Act.put, List.setIfInBounds_toArray, List.set_cons_zero, List.set_cons_succ, i64_w, i32_w]
                            rfl
                           refine pure_ (i := 20) (N := some 24) (v := ?_) (a' := ?_) #[true, true, true, true, true, true, true, true, true, true, true, true, true, true, true, true, true, true, true, true, true] rfl rfl (any_of HT_.out (by kernel_rfl)) (fun _ _ _ h => h) (Or.inl ⟨by rfl, ?_⟩) ?_ ?_
                           rotate_left
                           ·intro w'
                            go_simp
                            with_reducible rfl
                           rotate_left
                           ·simp only [Act.put, List.setIfInBounds_toArray, List.set_cons_zero, List.set_cons_succ, i64_w, i32_w]
                            rfl
                           refine done_ (done_of HT_.out (by kernel_rfl)) ?_
                           try go_wp2_with (first | (go_at_call 60; (with_reducible refine (signatoryref40_Number.calls t937 true _ A97.out).mono ?_); rintro e w' ⟨rfl, ⟨nd, rfl⟩⟩))
                           (try (rw [drewN_self w106]; generalize hq_ : World.drewN w106 _ = w106; have n0_ : Aside0 (Kd.R (Kd.int .i64) 3 w106 w.heap.size (fun k_ => some k_ ≠ (.slice Ao105 t927.length co105 : Value).ownBlock) (.slice (some ad931) t916.length co75) t916) := ⟨by rw [← hq_]; exact (by (with_reducible repeat (first | apply Kd.R_alloc | apply Kd.R_drewN | apply Kd.R_drew)); exact HO_13.out)⟩; have n1_ : Aside0 (Kd.R (Kd.int .i64) 3 w106 w.heap.size (fun k_ => some k_ ≠ (.slice (some ad931) t916.length co75 : Value).ownBlock) (.slice Ao105 t927.length co105) t927) := ⟨by rw [← hq_]; exact (by (with_reducible repeat (first | apply Kd.R_alloc | apply Kd.R_drewN | apply Kd.R_drew)); exact HO_19.out)⟩; have n2_ : Aside0 (w106.heap[gb908]? = some (.cells #[.slice A0_0 l0_0.length c0_0, .slice A0_1 l0_1.length c0_1] 25 (0, 0))) := ⟨by rw [← hq_]; exact (by (with_reducible repeat (first | refine blk_drewN ?_ _ | refine blk_drew ?_ | refine blk_alloc ?_ _)); exact BK908.out)⟩; have n3_ : Aside0 (Below w.heap.size w w106) := ⟨by rw [← hq_]; exact (by repeat (first | (with_reducible first | exact HB.out | apply below_alloc | apply pw_below_drewN | apply below_drew1 | refine below_set ?_ GE908.out) | exact HB.out))⟩; have n4_ : Aside0 (Kd.C (Kd.int .i64) w106 A104 y933.length y933) := ⟨by rw [← hq_]; exact (by repeat (first | (with_reducible exact HR936.out) | (with_reducible refine Kd.C_alloc ?_ _) | (with_reducible refine Kd.C_drewN ?_ _) | (with_reducible refine Kd.C_drew ?_) | exact HR936.out))⟩; clear HO_13 HO_19 BK908 HB HR936 hq_; have HO_13 := n0_; have HO_19 := n1_; have BK908 := n2_; have HB := n3_; have HR936 := n4_; clear n0_ n1_ n2_ n3_ n4_))
                           have n0_ := Aside0.mk (Kd.R_drew HO_13.out)
                           have n1_ := Aside0.mk (Kd.R_drew HO_19.out)
                           have n2_ := Aside0.mk (blk_drew BK908.out)
                           have n3_ := Aside0.mk (Kd.C_drew HR936.out)
                           have n4_ := Aside0.mk (below_drew1 HB.out)
                           clear HO_13
                           clear HO_19
                           clear BK908
                           clear HR936
                           clear HB
                           have HO_13 := n0_
                           have HO_19 := n1_
                           have BK908 := n2_
                           have HR936 := n3_
                           have HB := n4_
                           clear n0_ n1_ n2_ n3_ n4_
                           have p940 : 0 ≤ (x140_4 : Int) := of_decide_eq_true (by first | (with_reducible assumption) | assumption)
                           have q940 : x140_4 < (t916.length : Int) := of_decide_eq_true (by first | (with_reducible assumption) | assumption)
                           obtain ⟨ad940, e940, hx940_0⟩ := Kd.at_int (Kd.R_reads' HO_13.out).2.2 x140_4 p940 q940
                           obtain rfl : ad931 = ad940 := (by injection e940)
                           replace p940 := eq_true p940
                           replace q940 := eq_true q940
                           have p941 : 0 ≤ (x140_4 : Int) := of_decide_eq_true (by first | (with_reducible assumption) | assumption)
                           have q941 : x140_4 < (l4.length : Int) := of_decide_eq_true (by first | (with_reducible assumption) | assumption)
                           obtain ⟨ad941, e941, hx941_0⟩ := Kd.at_int HR4.out x140_4 p941 q941
                           have hw941_0 := hx941_0
                           cases e941
                           replace hx941_0 := (HB.out.cell (World.block_lt_of_cell? w _ hx941_0)).trans hx941_0
                           replace p941 := eq_true p941
                           replace q941 := eq_true q941
                           refine start_ (n := 15) (S := fun w' => w'.cell? (ad931.add (x140_4).toNat) = some (.int .i64 (rd t916 x140_4)) ∧ w'.cell? (ad941.add (x140_4).toNat) = some (.int .i64 (rd l4 x140_4))) (ds := []) #[false, false, false, false, false, false, false, false, false, false, false, false, false, false, false] (by kernel_rfl) rfl rfl ⟨hx940_0, ((HB.out.cell (World.block_lt_of_cell? w _ hw941_0)).trans hw941_0)⟩ (fun hHeld => ?_); refine with_tabW signatorylaw40_RebuildHidden.tab27 signatorylaw40_RebuildHidden.bits27 (fun HT_ HW_ => ?_)
                           generalize w106.drew = w107 at HO_13 HO_19 BK908 HR936 HB hx940_0 hx941_0 hHeld ⊢
                           refine pure_ (i := 0) (N := some 171) (v := ?_) (a' := ?_) #[true, false, false, false, false, false, false, false, false, false, false, false, false, false, false] rfl rfl (any_of HT_.out (by kernel_rfl)) (fun _ _ _ h => h) (Or.inl ⟨by rfl, ?_⟩) ?_ ?_
                           rotate_left
                           ·intro w'
                            go_simp
                            with_reducible rfl
                           rotate_left
                           ·simp only [Act.put, List.setIfInBounds_toArray, List.set_cons_zero, List.set_cons_succ, i64_w, i32_w]
                            rfl
                           refine pure_ (i := 1) (N := some 172) (v := ?_) (a' := ?_) #[true, true, false, false, false, false, false, false, false, false, false, false, false, false, false] rfl rfl (any_of HT_.out (by kernel_rfl)) (fun _ _ _ h => h) (Or.inl ⟨by rfl, ?_⟩) ?_ ?_
                           rotate_left
                           ·intro w'
                            go_simp
                            with_reducible rfl
                           rotate_left
                           ·simp only [Act.put, List.setIfInBounds_toArray, List.set_cons_zero, List.set_cons_succ, i64_w, i32_w]
                            rfl
                           refine pure_ (i := 2) (N := some 173) (v := ?_) (a' := ?_) #[true, true, true, false, false, false, false, false, false, false, false, false, false, false, false] rfl rfl (any_of HT_.out (by kernel_rfl)) (fun _ _ _ h => h) (Or.inl ⟨by rfl, ?_⟩) ?_ ?_
                           rotate_left
                           ·intro w'
                            go_simp
                            with_reducible rfl
                           rotate_left
                           ·simp only [Act.put, List.setIfInBounds_toArray, List.set_cons_zero, List.set_cons_succ, i64_w, i32_w]
                            rfl
                           refine pure_ (i := 3) (N := some 174) (v := ?_) (a' := ?_) #[true, true, true, true, false, false, false, false, false, false, false, false, false, false, false] rfl rfl (any_of HT_.out (by kernel_rfl)) (fun _ _ _ h => h) (Or.inl ⟨by rfl, ?_⟩) ?_ ?_
                           rotate_left
                           ·intro w'
                            go_simp
                            with_reducible rfl
                           rotate_left
                           ·simp only [Act.put, List.setIfInBounds_toArray, List.set_cons_zero, List.set_cons_succ, i64_w, i32_w]
                            rfl
                           refine pure_ (i := 5) (N := some 176) (v := ?_) (a' := ?_) #[true, true, true, true, false, true, false, false, false, false, false, false, false, false, false] rfl rfl (any_of HT_.out (by kernel_rfl)) (fun _ _ _ h => h) (Or.inl ⟨by rfl, ?_⟩) ?_ ?_
                           rotate_left
                           ·intro w'
                            go_simp
                            with_reducible rfl
                           rotate_left
                           ·simp only [Act.put, List.setIfInBounds_toArray, List.set_cons_zero, List.set_cons_succ, i64_w, i32_w]
                            rfl
                           refine pure_ (i := 6) (N := some 177) (v := ?_) (a' := ?_) #[true, true, true, true, false, true, true, false, false, false, false, false, false, false, false] rfl rfl (any_of HT_.out (by kernel_rfl)) (fun _ _ _ h => h) (Or.inl ⟨by rfl, ?_⟩) ?_ ?_
                           rotate_left
                           ·intro w'
                            go_simp
                            with_reducible rfl
                           rotate_left
                           ·simp only [Act.put, List.setIfInBounds_toArray, List.set_cons_zero, List.set_cons_succ, i64_w, i32_w]
                            rfl
                           refine pure_ (i := 7) (N := some 178) (v := ?_) (a' := ?_) #[true, true, true, true, false, true, true, true, false, false, false, false, false, false, false] rfl rfl (any_of HT_.out (by kernel_rfl)) (fun _ _ _ h => h) (Or.inl ⟨by rfl, ?_⟩) ?_ ?_
                           rotate_left
                           ·intro w'
                            go_simp
                            with_reducible rfl
                           rotate_left
                           ·simp only [Act.put, List.setIfInBounds_toArray, List.set_cons_zero, List.set_cons_succ, i64_w, i32_w]
                            rfl
                           refine take_ (i := 4) (N := some 175) (v := ?_) (a' := ?_) #[true, true, true, true, true, true, true, true, false, false, false, false, false, false, false] rfl rfl (take_ofW HT_.out HW_.out (by kernel_rfl)) (fun _ _ _ h => h) (Or.inl ⟨by rfl, ?_⟩) hHeld ?_ ?_
                           rotate_left
                           ·rintro w' ⟨s0, s1⟩
                            go_simp
                            with_reducible rfl
                           rotate_left
                           ·simp only [Act.put, List.setIfInBounds_toArray, List.set_cons_zero, List.set_cons_succ, i64_w, i32_w]
                            rfl
                           refine take_ (i := 8) (N := some 179) (v := ?_) (a' := ?_) #[true, true, true, true, true, true, true, true, true, false, false, false, false, false, false] rfl rfl (take_ofW HT_.out HW_.out (by kernel_rfl)) (fun _ _ _ h => h) (Or.inl ⟨by rfl, ?_⟩) hHeld ?_ ?_
                           rotate_left
                           ·rintro w' ⟨s0, s1⟩
                            go_simp
                            with_reducible rfl
                           rotate_left
                           ·simp only [Act.put, List.setIfInBounds_toArray, List.set_cons_zero, List.set_cons_succ, i64_w, i32_w]
                            rfl
                           refine pure_ (i := 9) (N := some 180) (v := ?_) (a' := ?_) #[true, true, true, true, true, true, true, true, true, true, false, false, false, false, false] rfl rfl (any_of HT_.out (by kernel_rfl)) (fun _ _ _ h => h) (Or.inl ⟨by rfl, ?_⟩) ?_ ?_
                           rotate_left
                           ·intro w'
                            go_simp
                            with_reducible rfl
                           rotate_left
                           ·simp only [Act.put, List.setIfInBounds_toArray, List.set_cons_zero, List.set_cons_succ, i64_w, i32_w]
                            rfl
                           refine pure_ (i := 10) (N := some 181) (v := ?_) (a' := ?_) #[true, true, true, true, true, true, true, true, true, true, true, false, false, false, false] rfl rfl (any_of HT_.out (by kernel_rfl)) (fun _ _ _ h => h) (Or.inl ⟨by rfl, ?_⟩) ?_ ?_
                           rotate_left
                           ·intro w'
                            go_simp
                            with_reducible rfl
                           rotate_left
                           ·simp only [Act.put, List.setIfInBounds_toArray, List.set_cons_zero, List.set_cons_succ, i64_w, i32_w]
                            rfl
                           refine pure_ (i := 11) (N := some 182) (v := ?_) (a' := ?_) #[true, true, true, true, true, true, true, true, true, true, true, true, false, false, false] rfl rfl (any_of HT_.out (by kernel_rfl)) (fun _ _ _ h => h) (Or.inl ⟨by rfl, ?_⟩) ?_ ?_
                           rotate_left
                           ·intro w'
                            go_simp
                            with_reducible rfl
                           rotate_left
                           ·simp only [Act.put, List.setIfInBounds_toArray, List.set_cons_zero, List.set_cons_succ, i64_w, i32_w]
                            rfl
                           refine pure_ (i := 12) (N := some 183) (v := ?_) (a' := ?_) #[true, true, true, true, true, true, true, true, true, true, true, true, true, false, false] rfl rfl (any_of HT_.out (by kernel_rfl)) (fun _ _ _ h => h) (Or.inl ⟨by rfl, ?_⟩) ?_ ?_
                           rotate_left
                           ·intro w'
                            go_simp
                            with_reducible rfl
                           rotate_left
                           ·simp only [Act.put, List.setIfInBounds_toArray, List.set_cons_zero, List.set_cons_succ, i64_w, i32_w]
                            rfl
                           refine pure_ (i := 13) (N := some 184) (v := ?_) (a' := ?_) #[true, true, true, true, true, true, true, true, true, true, true, true, true, true, false] rfl rfl (any_of HT_.out (by kernel_rfl)) (fun _ _ _ h => h) (Or.inl ⟨by rfl, ?_⟩) ?_ ?_
                           rotate_left
                           ·intro w'
                            go_simp
                            with_reducible rfl
                           rotate_left
                           ·simp only [Act.put, List.setIfInBounds_toArray, List.set_cons_zero, List.set_cons_succ, i64_w, i32_w]
                            rfl
                           refine pure_ (i := 14) (N := some 25) (v := ?_) (a' := ?_) #[true, true, true, true, true, true, true, true, true, true, true, true, true, true, true] rfl rfl (any_of HT_.out (by kernel_rfl)) (fun _ _ _ h => h) (Or.inl ⟨by rfl, ?_⟩) ?_ ?_
                           rotate_left
                           ·intro w'
                            go_simp
                            with_reducible rfl
                           rotate_left
                           ·simp only [Act.put, List.setIfInBounds_toArray, List.set_cons_zero, List.set_cons_succ, i64_w, i32_w]
                            rfl
                           refine done_ (done_of HT_.out (by kernel_rfl)) ?_
                           try go_wp2
                           have n0_ := Aside0.mk (Kd.R_drew HO_13.out)
                           have n1_ := Aside0.mk (Kd.R_drew HO_19.out)
                           have n2_ := Aside0.mk (blk_drew BK908.out)
                           have n3_ := Aside0.mk (Kd.C_drew HR936.out)
                           have n4_ := Aside0.mk (below_drew1 HB.out)
                           clear HO_13
                           clear HO_19
                           clear BK908
                           clear HR936
                           clear HB
                           have HO_13 := n0_
                           have HO_19 := n1_
                           have BK908 := n2_
                           have HR936 := n3_
                           have HB := n4_
                           clear n0_ n1_ n2_ n3_ n4_
                           have p942 : 0 ≤ (x140_4 : Int) := of_decide_eq_true (by first | (with_reducible assumption) | assumption)
                           have q942 : x140_4 < (t916.length : Int) := of_decide_eq_true (by first | (with_reducible assumption) | assumption)
                           obtain ⟨ad942, e942, hx942_0⟩ := Kd.at_int (Kd.R_reads' HO_13.out).2.2 x140_4 p942 q942
                           obtain rfl : ad931 = ad942 := (by injection e942)
                           replace p942 := eq_true p942
                           replace q942 := eq_true q942
                           have p943 : 0 ≤ (x140_4 : Int) := of_decide_eq_true (by first | (with_reducible assumption) | assumption)
                           have q943 : x140_4 < (l4.length : Int) := of_decide_eq_true (by first | (with_reducible assumption) | assumption)
                           obtain ⟨ad943, e943, hx943_0⟩ := Kd.at_int HR4.out x140_4 p943 q943
                           have hw943_0 := hx943_0
                           obtain rfl : ad941 = ad943 := (by injection e943)
                           replace hx943_0 := (HB.out.cell (World.block_lt_of_cell? w _ hx943_0)).trans hx943_0
                           replace p943 := eq_true p943
                           replace q943 := eq_true q943
                           refine start_ (n := 18) (S := fun w' => w'.cell? (ad931.add (x140_4).toNat) = some (.int .i64 (rd t916 x140_4)) ∧ w'.cell? (ad941.add (x140_4).toNat) = some (.int .i64 (rd l4 x140_4))) (ds := []) #[false, false, false, false, false, false, false, false, false, false, false, false, false, false, false, false, false, false] (by kernel_rfl) rfl rfl ⟨hx942_0, ((HB.out.cell (World.block_lt_of_cell? w _ hw943_0)).trans hw943_0)⟩ (fun hHeld => ?_); refine with_tabW signatorylaw40_RebuildHidden.tab28 signatorylaw40_RebuildHidden.bits28 (fun HT_ HW_ => ?_)
                           generalize w107.drew = w108 at HO_13 HO_19 BK908 HR936 HB hx942_0 hx943_0 hHeld ⊢
                           refine pure_ (i := 0) (N := some 186) (v := ?_) (a' := ?_) #[true, false, false, false, false, false, false, false, false, false, false, false, false, false, false, false, false, false] rfl rfl (any_of HT_.out (by kernel_rfl)) (fun _ _ _ h => h) (Or.inl ⟨by rfl, ?_⟩) ?_ ?_
                           rotate_left
                           ·intro w'
                            go_simp
                            with_reducible rfl
                           rotate_left
                           ·simp only [Act.put, List.setIfInBounds_toArray, List.set_cons_zero, List.set_cons_succ, i64_w, i32_w]
                            rfl
                           refine pure_ (i := 1) (N := some 187) (v := ?_) (a' := ?_) #[true, true, false, false, false, false, false, false, false, false, false, false, false, false, false, false, false, false] rfl rfl (any_of HT_.out (by kernel_rfl)) (fun _ _ _ h => h) (Or.inl ⟨by rfl, ?_⟩) ?_ ?_
                           rotate_left
                           ·intro w'
                            go_simp
                            with_reducible rfl
                           rotate_left
                           ·simp only [Act.put, List.setIfInBounds_toArray, List.set_cons_zero, List.set_cons_succ, i64_w, i32_w]
                            rfl
                           refine pure_ (i := 2) (N := some 188) (v := ?_) (a' := ?_) #[true, true, true, false, false, false, false, false, false, false, false, false, false, false, false, false, false, false] rfl rfl (any_of HT_.out (by kernel_rfl)) (fun _ _ _ h => h) (Or.inl ⟨by rfl, ?_⟩) ?_ ?_
                           rotate_left
                           ·intro w'
                            go_simp
                            with_reducible rfl
                           rotate_left
                           ·simp only [Act.put, List.setIfInBounds_toArray, List.set_cons_zero, List.set_cons_succ, i64_w, i32_w]
                            rfl
                           refine pure_ (i := 4) (N := some 190) (v := ?_) (a' := ?_) #[true, true, true, false, true, false, false, false, false, false, false, false, false, false, false, false, false, false] rfl rfl (any_of HT_.out (by kernel_rfl)) (fun _ _ _ h => h) (Or.inl ⟨by rfl, ?_⟩) ?_ ?_
                           rotate_left
                           ·intro w'
                            go_simp
                            with_reducible rfl
                           rotate_left
                           ·simp only [Act.put, List.setIfInBounds_toArray, List.set_cons_zero, List.set_cons_succ, i64_w, i32_w]
                            rfl
                           refine pure_ (i := 5) (N := some 191) (v := ?_) (a' := ?_) #[true, true, true, false, true, true, false, false, false, false, false, false, false, false, false, false, false, false] rfl rfl (any_of HT_.out (by kernel_rfl)) (fun _ _ _ h => h) (Or.inl ⟨by rfl, ?_⟩) ?_ ?_
                           rotate_left
                           ·intro w'
                            go_simp
                            with_reducible rfl
                           rotate_left
                           ·simp only [Act.put, List.setIfInBounds_toArray, List.set_cons_zero, List.set_cons_succ, i64_w, i32_w]
                            rfl
                           refine pure_ (i := 6) (N := some 192) (v := ?_) (a' := ?_) #[true, true, true, false, true, true, true, false, false, false, false, false, false, false, false, false, false, false] rfl rfl (any_of HT_.out (by kernel_rfl)) (fun _ _ _ h => h) (Or.inl ⟨by rfl, ?_⟩) ?_ ?_
                           rotate_left
                           ·intro w'
                            go_simp
                            with_reducible rfl
                           rotate_left
                           ·simp only [Act.put, List.setIfInBounds_toArray, List.set_cons_zero, List.set_cons_succ, i64_w, i32_w]
                            rfl
                           refine pure_ (i := 7) (N := some 193) (v := ?_) (a' := ?_) #[true, true, true, false, true, true, true, true, false, false, false, false, false, false, false, false, false, false] rfl rfl (any_of HT_.out (by kernel_rfl)) (fun _ _ _ h => h) (Or.inl ⟨by rfl, ?_⟩) ?_ ?_
                           rotate_left
                           ·intro w'
                            go_simp
                            with_reducible rfl
                           rotate_left
                           ·simp only [Act.put, List.setIfInBounds_toArray, List.set_cons_zero, List.set_cons_succ, i64_w, i32_w]
                            rfl
                           refine pure_ (i := 10) (N := some 196) (v := ?_) (a' := ?_) #[true, true, true, false, true, true, true, true, false, false, true, false, false, false, false, false, false, false] rfl rfl (any_of HT_.out (by kernel_rfl)) (fun _ _ _ h => h) (Or.inl ⟨by rfl, ?_⟩) ?_ ?_
                           rotate_left
                           ·intro w'
                            go_simp
                            with_reducible rfl
                           rotate_left
                           ·simp only [Act.put, List.setIfInBounds_toArray, List.set_cons_zero, List.set_cons_succ, i64_w, i32_w]
                            rfl
                           refine take_ (i := 3) (N := some 189) (v := ?_) (a' := ?_) #[true, true, true, true, true, true, true, true, false, false, true, false, false, false, false, false, false, false] rfl rfl (take_ofW HT_.out HW_.out (by kernel_rfl)) (fun _ _ _ h => h) (Or.inl ⟨by rfl, ?_⟩) hHeld ?_ ?_
                           rotate_left
                           ·rintro w' ⟨s0, s1⟩
                            go_simp
                            with_reducible rfl
                           rotate_left
                           ·simp only [Act.put, List.setIfInBounds_toArray, List.set_cons_zero, List.set_cons_succ, i64_w, i32_w]
                            rfl
                           refine take_ (i := 8) (N := some 194) (v := ?_) (a' := ?_) #[true, true, true, true, true, true, true, true, true, false, true, false, false, false, false, false, false, false] rfl rfl (take_ofW HT_.out HW_.out (by kernel_rfl)) (fun _ _ _ h => h) (Or.inl ⟨by rfl, ?_⟩) hHeld ?_ ?_
                           rotate_left
                           ·rintro w' ⟨s0, s1⟩
                            go_simp
                            with_reducible rfl
                           rotate_left
                           ·simp only [Act.put, List.setIfInBounds_toArray, List.set_cons_zero, List.set_cons_succ, i64_w, i32_w]
                            rfl
                           refine pure_ (i := 9) (N := some 195) (v := ?_) (a' := ?_) #[true, true, true, true, true, true, true, true, true, true, true, false, false, false, false, false, false, false] rfl rfl (any_of HT_.out (by kernel_rfl)) (fun _ _ _ h => h) (Or.inl ⟨by rfl, ?_⟩) ?_ ?_
                           rotate_left
                           ·intro w'
                            go_simp
                            with_reducible rfl
                           rotate_left
                           ·simp only [Act.put, List.setIfInBounds_toArray, List.set_cons_zero, List.set_cons_succ, i64_w, i32_w]
                            rfl
                           refine one_ (i := 11) (N := some 197) #[true, true, true, true, true, true, true, true, true, true, true, true, false, false, false, false, false, false] rfl rfl (one_of HT_.out (by kernel_rfl)) (by decide) (fun K hK => ?_)
                           refine Kd.R_lit_step (Kd.int .i64) _ 3 ?hg (N := 197) ?hd (xs := ([Int.tmod (wrap64 ((wrap64 (t937 - (Int.tmod (wrap64 ((rd t916 x140_4) * (rd l4 x140_4))) 1073741789))) + 1073741789)) 1073741789] : List Int)) (inner := [.int .i64 (Int.tmod (wrap64 ((wrap64 (t937 - (Int.tmod (wrap64 ((rd t916 x140_4) * (rd l4 x140_4))) 1073741789))) + 1073741789)) 1073741789)]) (ok := fun _ => True) (okp := fun _ => True) ?hr ?hp (fun _ hk => hk) trivial (Below.refl _ _) (Nat.le_refl _) (by simp) ?_; (case hd => rfl); (case hg => rfl); (case hr => first | (go_simp; done) | (go_simp; rfl)); (case hp => exact (Reps.one (show Kd.M (Kd.int .i64) _ _ _ (Int.tmod (wrap64 ((wrap64 (t937 - (Int.tmod (wrap64 ((rd t916 x140_4) * (rd l4 x140_4))) 1073741789))) + 1073741789)) 1073741789) [.int .i64 (Int.tmod (wrap64 ((wrap64 (t937 - (Int.tmod (wrap64 ((rd t916 x140_4) * (rd l4 x140_4))) 1073741789))) + 1073741789)) 1073741789)] from rfl) (Reps.none _ _)))
                           intro v945 w109 ho110 hb hg_ hnew_
                           have HS0_ := (hb.cell (World.block_lt_of_cell? _ _ (hHeld.1))).trans (hHeld.1)
                           clear hg_ hnew_
                           (first | rw [← Ny944.out] at ho110 | (simp only [Int.reduceToNat] at ho110; rw [← Ny944.out] at ho110))
                           have n0_ := Aside0.mk (Kd.R_elder' (by (with_reducible repeat (first | apply Kd.R_alloc | apply Kd.R_drewN | apply Kd.R_drew)); exact HO_13.out) (Kd.R_base ho110) hb)
                           have n1_ := Aside0.mk (Kd.R_elder' (by (with_reducible repeat (first | apply Kd.R_alloc | apply Kd.R_drewN | apply Kd.R_drew)); exact HO_19.out) (Kd.R_base ho110) hb)
                           have n2_ := Aside0.mk (Kd.R_lower (Kd.R_new' (Kd.R_new' ho110 (Kd.R_lt (by (with_reducible repeat (first | apply Kd.R_alloc | apply Kd.R_drewN | apply Kd.R_drew)); exact HO_13.out))) (Kd.R_lt (by (with_reducible repeat (first | apply Kd.R_alloc | apply Kd.R_drewN | apply Kd.R_drew)); exact HO_19.out))) (below_size (by repeat (first | (with_reducible first | exact HB.out | apply below_alloc | apply pw_below_drewN | apply below_drew1 | refine below_set ?_ GE908.out) | exact HB.out))))
                           have n3_ := Aside0.mk (blk_below (g := gb908) (o := .cells #[.slice A0_0 l0_0.length c0_0, .slice A0_1 l0_1.length c0_1] 25 (0, 0)) (by (with_reducible repeat (first | refine blk_drewN ?_ _ | refine blk_drew ?_ | refine blk_alloc ?_ _)); exact BK908.out) hb)
                           have n4_ := Aside0.mk (Kd.C_below (by repeat (first | (with_reducible exact HR936.out) | (with_reducible refine Kd.C_alloc ?_ _) | (with_reducible refine Kd.C_drewN ?_ _) | (with_reducible refine Kd.C_drew ?_) | exact HR936.out)) hb)
                           have n5_ := Aside0.mk (below_step (by repeat (first | (with_reducible first | exact HB.out | apply below_alloc | apply pw_below_drewN | apply below_drew1 | refine below_set ?_ GE908.out) | exact HB.out)) hb)
                           clear HO_13
                           clear HO_19
                           clear BK908
                           clear HR936
                           clear HB
                           have HO_13 := n0_
                           have HO_19 := n1_
                           have HO946 := n2_
                           have BK908 := n3_
                           have HR936 := n4_
                           have HB := n5_
                           clear n0_ n1_ n2_ n3_ n4_ n5_
                           clear hb ho110
                           obtain ⟨Ao111, co111, eo111⟩ := Kd.R_slice HO946.out
                           (first | subst eo111 | (injection eo111 with f1_ f2_ f3_; have f4_ := f1_.symm; have f5_ := f3_.symm; clear f1_ f2_ f3_; subst f4_; subst f5_))
                           refine hK.out _ _ ⟨HS0_, ((HB.out.cell (World.block_lt_of_cell? w _ hw943_0)).trans hw943_0)⟩ (fun hHeld => ?_)
                           clear hK K
                           refine norm_ (a' := ?_) ?_ ?_
                           rotate_left
                           ·show Act.put _ (some 197) _ = _
                            simp only [Act.put, List.setIfInBounds_toArray, List.set_cons_zero, List.set_cons_succ, i64_w, i32_w]
                            rfl
                           refine one_ (i := 12) (N := some 198) #[true, true, true, true, true, true, true, true, true, true, true, true, true, false, false, false, false, false] rfl rfl (one_of HT_.out (by kernel_rfl)) (by decide) (fun K hK => ?_)
                           refine goes_ Try.func42 (by kernel_rfl) rfl #[.int .i64 (rd t916 x140_4), .agg #[.int .i64 (rd l2 x140_4), .int .i64 (rd l4 x140_4)], .slice Ao111 y944.length co111] (by rfl) rfl rfl (by (try simp only [List.map_toArray, List.map_cons, List.map_nil]); first | done | rfl | (simp only [List.length_drop, List.length_take]; rfl)) ?_
                           with_reducible refine (rebuild_Part.calls (rd t916 x140_4) (rd l2 x140_4) (rd l4 x140_4) _ _ y944 t947 t948 _ ?side1 ?side2 A100.out).mono ?_
                           (case side1 => repeat (first | exact (Kd.R_reads' HO946.out).2.2 | (with_reducible refine Kd.C_alloc ?_ _) | (with_reducible refine Kd.C_drewN ?_ _) | (with_reducible refine Kd.C_drew ?_)))
                           (case side2 => exact (Kd.R_reads' HO946.out).2.1)
                           rintro e w112 ⟨rfl, hb⟩
                           have HS0_ := (hb.cell (World.block_lt_of_cell? _ _ (hHeld.1))).trans (hHeld.1)
                           refine ⟨_, rfl, ?_⟩
                           have n0_ := Aside0.mk (Kd.R_below (by (with_reducible repeat (first | apply Kd.R_alloc | apply Kd.R_drewN | apply Kd.R_drew)); exact HO_13.out) hb)
                           have n1_ := Aside0.mk (Kd.R_below (by (with_reducible repeat (first | apply Kd.R_alloc | apply Kd.R_drewN | apply Kd.R_drew)); exact HO_19.out) hb)
                           have n2_ := Aside0.mk (Kd.R_below (by (with_reducible repeat (first | apply Kd.R_alloc | apply Kd.R_drewN | apply Kd.R_drew)); exact HO946.out) hb)
                           have n3_ := Aside0.mk (blk_below (g := gb908) (o := .cells #[.slice A0_0 l0_0.length c0_0, .slice A0_1 l0_1.length c0_1] 25 (0, 0)) (by (with_reducible repeat (first | refine blk_drewN ?_ _ | refine blk_drew ?_ | refine blk_alloc ?_ _)); exact BK908.out) hb)
                           have n4_ := Aside0.mk (Kd.C_below (by repeat (first | (with_reducible exact HR936.out) | (with_reducible refine Kd.C_alloc ?_ _) | (with_reducible refine Kd.C_drewN ?_ _) | (with_reducible refine Kd.C_drew ?_) | exact HR936.out)) hb)
                           have n5_ := Aside0.mk (below_step (by repeat (first | (with_reducible first | exact HB.out | apply below_alloc | apply pw_below_drewN | apply below_drew1 | refine below_set ?_ GE908.out) | exact HB.out)) hb)
                           clear HO_13
                           clear HO_19
                           clear HO946
                           clear BK908
                           clear HR936
                           clear HB
                           have HO_13 := n0_
                           have HO_19 := n1_
                           have HO946 := n2_
                           have BK908 := n3_
                           have HR936 := n4_
                           have HB := n5_
                           clear n0_ n1_ n2_ n3_ n4_ n5_
                           (try clear hb)
                           (try clear hb2)
                           (try clear hk)
                           (try clear hi)
                           refine hK.out _ _ ⟨HS0_, ((HB.out.cell (World.block_lt_of_cell? w _ hw943_0)).trans hw943_0)⟩ (fun hHeld => ?_)
                           clear hK K
                           refine norm_ (a' := ?_) ?_ ?_
                           rotate_left
                           ·show Act.put _ (some 198) _ = _
                            simp only [Act.put, List.setIfInBounds_toArray, List.set_cons_zero, List.set_cons_succ, i64_w, i32_w]
                            rfl
                           refine pure_ (i := 13) (N := some 185) (v := ?_) (a' := ?_) #[true, true, true, true, true, true, true, true, true, true, true, true, true, true, false, false, false, false] rfl rfl (any_of HT_.out (by kernel_rfl)) (fun _ _ _ h => h) (Or.inl ⟨by rfl, ?_⟩) ?_ ?_
                           rotate_left
                           ·intro w'
                            go_simp
                            with_reducible rfl
                           rotate_left
                           ·simp only [Act.put, List.setIfInBounds_toArray, List.set_cons_zero, List.set_cons_succ, i64_w, i32_w]
                            rfl
                           refine pure_ (i := 14) (N := some 199) (v := ?_) (a' := ?_) #[true, true, true, true, true, true, true, true, true, true, true, true, true, true, true, false, false, false] rfl rfl (any_of HT_.out (by kernel_rfl)) (fun _ _ _ h => h) (Or.inl ⟨by rfl, ?_⟩) ?_ ?_
                           rotate_left
                           ·intro w'
                            go_simp
                            with_reducible rfl
                           rotate_left
                           ·simp only [Act.put, List.setIfInBounds_toArray, List.set_cons_zero, List.set_cons_succ, i64_w, i32_w]
                            rfl
                           refine pure_ (i := 15) (N := some 200) (v := ?_) (a' := ?_) #[true, true, true, true, true, true, true, true, true, true, true, true, true, true, true, true, false, false] rfl rfl (any_of HT_.out (by kernel_rfl)) (fun _ _ _ h => h) (Or.inl ⟨by rfl, ?_⟩) ?_ ?_
                           rotate_left
                           ·intro w'
                            go_simp
                            with_reducible rfl
                           rotate_left
                           ·simp only [Act.put, List.setIfInBounds_toArray, List.set_cons_zero, List.set_cons_succ, i64_w, i32_w]
                            rfl
                           refine pure_ (i := 16) (N := some 26) (v := ?_) (a' := ?_) #[true, true, true, true, true, true, true, true, true, true, true, true, true, true, true, true, true, false] rfl rfl (any_of HT_.out (by kernel_rfl)) (fun _ _ _ h => h) (Or.inl ⟨by rfl, ?_⟩) ?_ ?_
                           rotate_left
                           ·intro w'
                            go_simp
                            with_reducible rfl
                           rotate_left
                           ·simp only [Act.put, List.setIfInBounds_toArray, List.set_cons_zero, List.set_cons_succ, i64_w, i32_w]
                            rfl
                           refine pure_ (i := 17) (N := some 27) (v := ?_) (a' := ?_) #[true, true, true, true, true, true, true, true, true, true, true, true, true, true, true, true, true, true] rfl rfl (any_of HT_.out (by kernel_rfl)) (fun _ _ _ h => h) (Or.inl ⟨by rfl, ?_⟩) ?_ ?_
                           rotate_left
                           ·intro w'
                            go_simp
                            with_reducible rfl
                           rotate_left
                           ·simp only [Act.put, List.setIfInBounds_toArray, List.set_cons_zero, List.set_cons_succ, i64_w, i32_w]
                            rfl
                           refine done_ (done_of HT_.out (by kernel_rfl)) ?_
                           try go_wp2
                           go_roundg k4
                           case measure => have := HJ8.out; have := HJ68.out; have := HK3.out; have := HK4.out; omega
                           case rel => exact ⟨(Int.tmod (wrap64 (x20_4 + (Int.tmod (wrap64 ((wrap64 (t937 - (Int.tmod (wrap64 ((rd t916 x140_4) * (rd l4 x140_4))) 1073741789))) + 1073741789)) 1073741789))) 1073741789), (wrap64 (x140_4 + 1)), (by first | rfl | (simp; done) | (simp [*]; done)), (by first | rfl | (simp; done) | (simp [*]; done)), H', ⟨by have := HJ8.out; have := HJ68.out; have := HK3.out; have := HK4.out; omega⟩, ⟨by (with_reducible repeat (first | apply Kd.R_alloc | apply Kd.R_drewN | apply Kd.R_drew)); exact Kd.R_mono HO_13.out (fun _ hk => hk.1)⟩, ⟨by (with_reducible repeat (first | apply Kd.R_alloc | apply Kd.R_drewN | apply Kd.R_drew)); exact Kd.R_mono HO_19.out (fun _ hk => hk.1)⟩, ⟨by (with_reducible repeat (first | refine blk_drewN ?_ _ | refine blk_drew ?_ | refine blk_alloc ?_ _)); exact BK908.out⟩, ⟨by repeat (first | (with_reducible first | exact HB.out | apply below_alloc | apply pw_below_drewN | apply below_drew1 | refine below_set ?_ GE908.out) | exact HB.out)⟩⟩
                          ·rw [if_neg c102] at H
                           exact absurd H (by simp)
                         ·rw [if_neg c101] at H
                          exact absurd H (by simp)
                        ·rw [if_neg c99] at H
                         exact absurd H (by simp)
                       ·replace c98 := Bool.eq_false_iff.mpr c98
                        subst c98
                        have H1 : (none) = some r := by rw [if_neg (show ¬ (false = true) by decide)] at H; exact H
                        clear H
                        have H := H1
                        clear H1
                        exact absurd H (by simp)
                      ·rw [if_neg c96] at H
                       exact absurd H (by simp)
                     ·rw [if_neg c94] at H
                      exact absurd H (by simp)
                    ·rw [if_neg c93] at H
                     exact absurd H (by simp)
                   ·rw [if_neg c91] at H
                    exact absurd H (by simp)
                  ·rw [if_neg c90] at H
                   exact absurd H (by simp)
                 ·rw [if_neg c89] at H
                  exact absurd H (by simp)
                ·rw [if_neg c88] at H
                 exact absurd H (by simp)
               ·rw [if_neg c87] at H
                have c87b0 : decide (x140_4 < (l2.length : Int)) = false := decide_eq_false c87
                clear c87
                obtain rfl := Option.some.inj H
                go_wp2
                go_ret
                exact ⟨by first | rfl | (simp [errW_none, errW_some] <;> rfl) | (simp [*, errW_none, errW_some] <;> rfl), by repeat (first | (with_reducible first | exact HB.out | apply below_alloc | apply pw_below_drewN | apply below_drew1 | refine below_set ?_ GE908.out) | exact HB.out)⟩
            ·rw [if_neg c84] at H
             have c84b0 : (x16_3 == x17_3) = false := beq_eq_false_iff_ne.mpr c84
             have c84b1 : (x16_3 != x17_3) = true := bne_iff_ne.mpr c84
             obtain rfl := Option.some.inj H
             go_wp2
             go_ret
             exact ⟨by first | rfl | (simp [errW_none, errW_some] <;> rfl) | (simp [*, errW_none, errW_some] <;> rfl), by repeat (first | (with_reducible first | exact HB.out | apply below_alloc | apply pw_below_drewN | apply below_drew1 | refine below_set ?_ GE908.out) | exact HB.out)⟩
        ·rw [if_neg c74] at H
         exact absurd H (by simp)
 ·replace c8 := Bool.eq_false_iff.mpr c8
  subst c8
  have H1 : (none) = some r := by rw [if_neg (show ¬ (false = true) by decide)] at H; exact H
  clear H
  have H := H1
  clear H1
  exact absurd H (by simp)
end Go.Proofs.Ytdbamhckgaoibaa.P
