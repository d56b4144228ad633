/- A part of the proof of DealingHides: The calls of signatorylaw34.DealingHides come to what their functions in Lean say.; DealingHides holds: whoever is not enough has the same shares for every secret. -/
import Derived.Test.YtdbamhckgaoibaaZDH7
namespace Go.Proofs.Ytdbamhckgaoibaa.P
open Go.RowKit Go.Proofs.YtdbamhckgaoibaaW.PrintWords Go.Proofs.YtdbamhckgaoibaaW.PrintLast Go.Proofs.YtdbamhckgaoibaaW.PrintMore
attribute [local go_sem] max2_int min2_int max_two min_two max_three min_three max_four min_four
set_option linter.unusedVariables false
set_option linter.unusedSimpArgs false
mutual
def signatorylaw34_DealingHides.l0 : Nat → List Int → List Int → Int → Int → List Int → Int → List Int → List Int → Int → Int → List (List Int) → List Int → Option (Bool)
 | 0, _, _, _, _, _, _, _, _, _, _, _, _ => none
 | k + 1, x11, x12, x15, x16, x17, x18, x19, x67, x68, x69, x740000, x740001 => if x69 < x68 then (if 0 ≤ x69 then (if x69 < (x67.length : Int) then (if 0 ≤ (wrap64 (x69 + 1)) then (if (wrap64 (x69 + 1)) < (x12.length : Int) then ((field_Mul_m.f x18 (rd x12 (wrap64 (x69 + 1)))).bind fun t759 => ((field_Add_m.f (rd x67 x69) t759).bind fun t760 => (if x19.length < 17592186044416 then (signatorylaw34_DealingHides.l0 k x11 x12 x15 x16 x17 x18 (x19 ++ [t760]) x67 x68 (wrap64 (x69 + 1)) x740000 x740001) else (none)))) else (none)) else (none)) else (none)) else (none)) else ((dealing_Deal.f x740000 x740001 x15 x17).bind fun bt764 => ((dealing_Deal.f x740000 x740001 x16 x19).bind fun bt771 => (if bt764.2.2 = 0 then (if bt771.2.2 = 0 then (if (bt764.1.length : Int) = (x740000.length : Int) then (if (bt771.1.length : Int) = (x740000.length : Int) then (signatorylaw34_DealingHides.l1 k x11 bt764.1 bt771.1 (bt764.1.length : Int) 0 x740000 x740001) else (none)) else (none)) else (none)) else (none))))
def signatorylaw34_DealingHides.l1 : Nat → List Int → List (S38) → List (S38) → Int → Int → List (List Int) → List Int → Option (Bool)
 | 0, _, _, _, _, _, _, _ => none
 | k + 1, x11, x22, x25, x126, x127, x740000, x740001 => if x127 < x126 then (if 0 ≤ x127 then (if x127 < (x22.length : Int) then (if ((rd_T38 x22 x127).f0) = x127 then (if x127 < (x25.length : Int) then (if ((rd_T38 x25 x127).f0) = x127 then (signatorylaw34_DealingHides.l1 k x11 x22 x25 x126 (wrap64 (x127 + 1)) x740000 x740001) else (none)) else (none)) else (none)) else (none)) else (none)) else ((signatoryref34_Of.f k x740000 x740001 x22 x11).bind fun t780 => ((signatoryref34_Of.f k x740000 x740001 x25 x11).bind fun t783 => ((signatoryref34_Same.f k t780 t783).bind fun t786 => (some t786))))
end
def signatorylaw34_DealingHides.f (k : Nat) (l0_0 : List (List Int)) (l0_1 : List Int) (a1 : Int) (a2 : Int) (l3 : List Int) (a4 : Int) : Option (Bool) := (signatorylaw34_sane.f).bind fun t740 => (if t740 = true then ((signatoryref34_Small.f k l0_0 l0_1).bind fun t741 => (if t741 = true then ((signatorylaw34_people.f k a4).bind fun t742 => ((program_Refuses.f l0_0 l0_1 t742).bind fun bt745 => (if bt745.2.2 = 0 then (if bt745.2.1 = true then ((signatorylaw34_random.f k l0_0 l0_1 l3).bind fun t750 => (if (bt745.1.length : Int) = (wrap64 ((t750.length : Int) + 1)) then ((field_Add_m.f (Int.tmod (wrap64 (a2)) 1073741789) (wrap64 (1073741789 - (Int.tmod (wrap64 (a1)) 1073741789)))).bind fun t753 => (signatorylaw34_DealingHides.l0 k t742 bt745.1 (Int.tmod (wrap64 (a1)) 1073741789) (Int.tmod (wrap64 (a2)) 1073741789) t750 t753 (([] : List Int)) t750 (t750.length : Int) 0 l0_0 l0_1)) else (none))) else (some true)) else (none)))) else (some true))) else (none))
def signatorylaw34_DealingHides.T31 : Bool × List (List Nat × List Nat) := (true, [([], []), ([], []), ([], []), ([0, 1, 2], [0, 1, 2]), ([], []), ([], []), ([], []), ([4, 5, 6, 3], [4, 5, 6]), ([3, 7, 7], [3, 7]), ([8, 8, 0, 1, 2, 3, 4, 5, 6, 7, 8], [8])])
def signatorylaw34_DealingHides.B31 : List Nat := [0, 0, 0, 7, 0, 0, 0, 127, 255, 511]
theorem signatorylaw34_DealingHides.tab31 : rtab .any (opsOf Try.f14 31) = signatorylaw34_DealingHides.T31 := by kernel_rfl
theorem signatorylaw34_DealingHides.bits31 : waitsOk signatorylaw34_DealingHides.T31.2 signatorylaw34_DealingHides.B31 = true := by kernel_rfl
set_option maxHeartbeats 8000000 in
set_option maxRecDepth 100000 in
theorem signatorylaw34_DealingHides.calls (k : Nat) (A0_0 : Option Addr) (c0_0 : Nat) (l0_0 : List (List Int)) (A0_1 : Option Addr) (c0_1 : Nat) (l0_1 : List Int) (a1 : Int) (a2 : Int) (A3 : Option Addr) (c3 : Nat) (l3 : List Int) (a4 : Int) (r : Bool) (w : World) (hr0_0 : Kd.C (Kd.slice 3 (Kd.int .i64)) w A0_0 l0_0.length l0_0) (hc0_0 : l0_0.length ≤ c0_0) (hr0_1 : Kd.C (Kd.int .i64) w A0_1 l0_1.length l0_1) (hc0_1 : l0_1.length ≤ c0_1) (hr3 : Kd.C (Kd.int .u32) w A3 l3.length l3) (hc3 : l3.length ≤ c3) (h : signatorylaw34_DealingHides.f k l0_0 l0_1 a1 a2 l3 a4 = some r) :
  Calls Try.prog 14 #[.agg #[.slice A0_0 l0_0.length c0_0, .slice A0_1 l0_1.length c0_1], .int .u32 a1, .int .u32 a2, .slice A3 l3.length c3, .int .u64 a4] w fun e w' => e = .returned (.bool r) ∧ Below w.heap.size w w' := by
 have hu25 := Try.underlying25
 have HR0_0 := Aside0.mk hr0_0
 have HC0_0 := Aside0.mk hc0_0
 clear hr0_0 hc0_0
 have HR0_1 := Aside0.mk hr0_1
 have HC0_1 := Aside0.mk hc0_1
 clear hr0_1 hc0_1
 have HR3 := Aside0.mk hr3
 have HC3 := Aside0.mk hc3
 clear hr3 hc3
 have HB := Aside0.mk (Below.refl w.heap.size w)
 have H : ((signatorylaw34_sane.f).bind fun t740 => (if t740 = true then ((signatoryref34_Small.f k l0_0 l0_1).bind fun t741 => (if t741 = true then ((signatorylaw34_people.f k a4).bind fun t742 => ((program_Refuses.f l0_0 l0_1 t742).bind fun bt745 => (if bt745.2.2 = 0 then (if bt745.2.1 = true then ((signatorylaw34_random.f k l0_0 l0_1 l3).bind fun t750 => (if (bt745.1.length : Int) = (wrap64 ((t750.length : Int) + 1)) then ((field_Add_m.f (Int.tmod (wrap64 (a2)) 1073741789) (wrap64 (1073741789 - (Int.tmod (wrap64 (a1)) 1073741789)))).bind fun t753 => (signatorylaw34_DealingHides.l0 k t742 bt745.1 (Int.tmod (wrap64 (a1)) 1073741789) (Int.tmod (wrap64 (a2)) 1073741789) t750 t753 (([] : List Int)) t750 (t750.length : Int) 0 l0_0 l0_1)) else (none))) else (some true)) else (none)))) else (some true))) else (none))) = some r := h
 clear h
 replace H := Option.bind_eq_some_iff.mp H
 obtain ⟨t740, A60, H⟩ := H
 replace H : (if t740 = true then ((signatoryref34_Small.f k l0_0 l0_1).bind fun t741 => (if t741 = true then ((signatorylaw34_people.f k a4).bind fun t742 => ((program_Refuses.f l0_0 l0_1 t742).bind fun bt745 => (if bt745.2.2 = 0 then (if bt745.2.1 = true then ((signatorylaw34_random.f k l0_0 l0_1 l3).bind fun t750 => (if (bt745.1.length : Int) = (wrap64 ((t750.length : Int) + 1)) then ((field_Add_m.f (Int.tmod (wrap64 (a2)) 1073741789) (wrap64 (1073741789 - (Int.tmod (wrap64 (a1)) 1073741789)))).bind fun t753 => (signatorylaw34_DealingHides.l0 k t742 bt745.1 (Int.tmod (wrap64 (a1)) 1073741789) (Int.tmod (wrap64 (a2)) 1073741789) t750 t753 (([] : List Int)) t750 (t750.length : Int) 0 l0_0 l0_1)) else (none))) else (some true)) else (none)))) else (some true))) else (none)) = some r := H
 have A6 := Aside0.mk A60
 clear A60
 by_cases c7 : t740 = true
 ·subst c7
  have H1 : ((signatoryref34_Small.f k l0_0 l0_1).bind fun t741 => (if t741 = true then ((signatorylaw34_people.f k a4).bind fun t742 => ((program_Refuses.f l0_0 l0_1 t742).bind fun bt745 => (if bt745.2.2 = 0 then (if bt745.2.1 = true then ((signatorylaw34_random.f k l0_0 l0_1 l3).bind fun t750 => (if (bt745.1.length : Int) = (wrap64 ((t750.length : Int) + 1)) then ((field_Add_m.f (Int.tmod (wrap64 (a2)) 1073741789) (wrap64 (1073741789 - (Int.tmod (wrap64 (a1)) 1073741789)))).bind fun t753 => (signatorylaw34_DealingHides.l0 k t742 bt745.1 (Int.tmod (wrap64 (a1)) 1073741789) (Int.tmod (wrap64 (a2)) 1073741789) t750 t753 (([] : List Int)) t750 (t750.length : Int) 0 l0_0 l0_1)) else (none))) else (some true)) else (none)))) else (some true))) = some r := by rw [if_pos rfl] at H; exact H
  clear H
  have H := H1
  clear H1
  replace H := Option.bind_eq_some_iff.mp H
  obtain ⟨t741, A80, H⟩ := H
  replace H : (if t741 = true then ((signatorylaw34_people.f k a4).bind fun t742 => ((program_Refuses.f l0_0 l0_1 t742).bind fun bt745 => (if bt745.2.2 = 0 then (if bt745.2.1 = true then ((signatorylaw34_random.f k l0_0 l0_1 l3).bind fun t750 => (if (bt745.1.length : Int) = (wrap64 ((t750.length : Int) + 1)) then ((field_Add_m.f (Int.tmod (wrap64 (a2)) 1073741789) (wrap64 (1073741789 - (Int.tmod (wrap64 (a1)) 1073741789)))).bind fun t753 => (signatorylaw34_DealingHides.l0 k t742 bt745.1 (Int.tmod (wrap64 (a1)) 1073741789) (Int.tmod (wrap64 (a2)) 1073741789) t750 t753 (([] : List Int)) t750 (t750.length : Int) 0 l0_0 l0_1)) else (none))) else (some true)) else (none)))) else (some true)) = some r := H
  have A8 := Aside0.mk A80
  clear A80
  by_cases c9 : t741 = true
  ·subst c9
   have H1 : ((signatorylaw34_people.f k a4).bind fun t742 => ((program_Refuses.f l0_0 l0_1 t742).bind fun bt745 => (if bt745.2.2 = 0 then (if bt745.2.1 = true then ((signatorylaw34_random.f k l0_0 l0_1 l3).bind fun t750 => (if (bt745.1.length : Int) = (wrap64 ((t750.length : Int) + 1)) then ((field_Add_m.f (Int.tmod (wrap64 (a2)) 1073741789) (wrap64 (1073741789 - (Int.tmod (wrap64 (a1)) 1073741789)))).bind fun t753 => (signatorylaw34_DealingHides.l0 k t742 bt745.1 (Int.tmod (wrap64 (a1)) 1073741789) (Int.tmod (wrap64 (a2)) 1073741789) t750 t753 (([] : List Int)) t750 (t750.length : Int) 0 l0_0 l0_1)) else (none))) else (some true)) else (none)))) = some r := by rw [if_pos rfl] at H; exact H
   clear H
   have H := H1
   clear H1
   replace H := Option.bind_eq_some_iff.mp H
   obtain ⟨t742, A100, H⟩ := H
   replace H : ((program_Refuses.f l0_0 l0_1 t742).bind fun bt745 => (if bt745.2.2 = 0 then (if bt745.2.1 = true then ((signatorylaw34_random.f k l0_0 l0_1 l3).bind fun t750 => (if (bt745.1.length : Int) = (wrap64 ((t750.length : Int) + 1)) then ((field_Add_m.f (Int.tmod (wrap64 (a2)) 1073741789) (wrap64 (1073741789 - (Int.tmod (wrap64 (a1)) 1073741789)))).bind fun t753 => (signatorylaw34_DealingHides.l0 k t742 bt745.1 (Int.tmod (wrap64 (a1)) 1073741789) (Int.tmod (wrap64 (a2)) 1073741789) t750 t753 (([] : List Int)) t750 (t750.length : Int) 0 l0_0 l0_1)) else (none))) else (some true)) else (none))) = some r := H
   have A10 := Aside0.mk A100
   clear A100
   replace H := Option.bind_eq_some_iff.mp H
   obtain ⟨⟨t745, t748, t749⟩, A110, H⟩ := H
   replace H : (if t749 = 0 then (if t748 = true then ((signatorylaw34_random.f k l0_0 l0_1 l3).bind fun t750 => (if (t745.length : Int) = (wrap64 ((t750.length : Int) + 1)) then ((field_Add_m.f (Int.tmod (wrap64 (a2)) 1073741789) (wrap64 (1073741789 - (Int.tmod (wrap64 (a1)) 1073741789)))).bind fun t753 => (signatorylaw34_DealingHides.l0 k t742 t745 (Int.tmod (wrap64 (a1)) 1073741789) (Int.tmod (wrap64 (a2)) 1073741789) t750 t753 (([] : List Int)) t750 (t750.length : Int) 0 l0_0 l0_1)) else (none))) else (some true)) else (none)) = some r := H
   have A11 := Aside0.mk A110
   clear A110
   by_cases c12 : t749 = 0
   ·rw [if_pos c12] at H
    have c12b0 : (t749 == 0) = true := beq_iff_eq.mpr c12
    have c12b1 : (t749 != 0) = false := bne_eq_false_iff_eq.mpr c12
    clear c12
    by_cases c13 : t748 = true
    ·subst c13
     have H1 : ((signatorylaw34_random.f k l0_0 l0_1 l3).bind fun t750 => (if (t745.length : Int) = (wrap64 ((t750.length : Int) + 1)) then ((field_Add_m.f (Int.tmod (wrap64 (a2)) 1073741789) (wrap64 (1073741789 - (Int.tmod (wrap64 (a1)) 1073741789)))).bind fun t753 => (signatorylaw34_DealingHides.l0 k t742 t745 (Int.tmod (wrap64 (a1)) 1073741789) (Int.tmod (wrap64 (a2)) 1073741789) t750 t753 (([] : List Int)) t750 (t750.length : Int) 0 l0_0 l0_1)) else (none))) = some r := by rw [if_pos rfl] at H; exact H
     clear H
     have H := H1
     clear H1
     replace H := Option.bind_eq_some_iff.mp H
     obtain ⟨t750, A140, H⟩ := H
     replace H : (if (t745.length : Int) = (wrap64 ((t750.length : Int) + 1)) then ((field_Add_m.f (Int.tmod (wrap64 (a2)) 1073741789) (wrap64 (1073741789 - (Int.tmod (wrap64 (a1)) 1073741789)))).bind fun t753 => (signatorylaw34_DealingHides.l0 k t742 t745 (Int.tmod (wrap64 (a1)) 1073741789) (Int.tmod (wrap64 (a2)) 1073741789) t750 t753 (([] : List Int)) t750 (t750.length : Int) 0 l0_0 l0_1)) else (none)) = some r := H
     have A14 := Aside0.mk A140
     clear A140
     by_cases c15 : (t745.length : Int) = (wrap64 ((t750.length : Int) + 1))
     ·rw [if_pos c15] at H
      have c15b0 : ((t745.length : Int) == (wrap64 ((t750.length : Int) + 1))) = true := beq_iff_eq.mpr c15
      have c15b1 : ((t745.length : Int) != (wrap64 ((t750.length : Int) + 1))) = false := bne_eq_false_iff_eq.mpr c15
      clear c15
      replace H := Option.bind_eq_some_iff.mp H
      obtain ⟨t753, A160, H⟩ := H
      replace H : (signatorylaw34_DealingHides.l0 k t742 t745 (Int.tmod (wrap64 (a1)) 1073741789) (Int.tmod (wrap64 (a2)) 1073741789) t750 t753 (([] : List Int)) t750 (t750.length : Int) 0 l0_0 l0_1) = some r := H
      have A16 := Aside0.mk A160
      clear A160
      obtain ⟨y754, hy754⟩ : ∃ y_ : List Int, y_ = (([] : List Int)) := ⟨_, rfl⟩
      replace H : (signatorylaw34_DealingHides.l0 k t742 t745 (Int.tmod (wrap64 (a1)) 1073741789) (Int.tmod (wrap64 (a2)) 1073741789) t750 t753 y754 t750 (t750.length : Int) 0 l0_0 l0_1) = some r := by first | (rw [hy754]; with_reducible exact H) | (have H2_ := (Option.bind_some _ _).symm.trans H; rw [hy754]; with_reducible exact H2_) | (have H2_ := (Option.bind_some _ _).symm.trans H; with_reducible exact H2_) | with_reducible exact H | (rw [hy754]; exact H) | exact H
      have Ny754 := Aside0.mk hy754
      clear hy754
      have H' := Aside0.mk H
      clear H
      go_enter Try.func14, Try.ntmps14
      go_wp2_with (first | ((with_reducible refine gate_dst (N := 5) rfl ?_); (try (refine gate_guard (by rfl) ?_; dsimp only)); refine box_event ?hg (N := 5) ?hd (cs := #[.slice A0_0 l0_0.length c0_0, .slice A0_1 l0_1.length c0_1]) (t := 25) ?hr ?_; (case hd => rfl); (case hg => rfl); (case hr => first | (go_simp; done) | (go_simp; rfl)); intro gb739 hg w17 hbox hb; have n0_ := Aside0.mk (below_step (by repeat (first | (with_reducible first | exact HB.out | apply below_alloc | apply pw_below_drewN | apply below_drew1) | exact HB.out)) hb); have n1_ := Aside0.mk (hbox); have n2_ := Aside0.mk ((by rw [hg]; exact (below_size (by repeat (first | (with_reducible first | exact HB.out | apply below_alloc | apply pw_below_drewN | apply below_drew1) | exact HB.out))) : w.heap.size ≤ gb739)); have n3_ := Aside0.mk ((by rw [hg]; exact (below_size (by repeat (first | (with_reducible first | exact HB.out | apply below_alloc | apply pw_below_drewN | apply below_drew1) | exact HB.out))) : w.heap.size ≤ gb739)); clear HB; have HB := n0_; have BK739 := n1_; have GW739 := n2_; have GE739 := n3_; clear n0_ n1_ n2_ n3_; clear hb hbox hg) | ((with_reducible refine gate_callee (f := 20) rfl ?_); refine goesL_ (some 29) rfl rfl Try.func20 (by kernel_rfl) rfl #[] rfl (by (try simp only [List.map_toArray, List.map_cons, List.map_nil]); first | done | rfl | (simp only [List.length_drop, List.length_take]; rfl)) ?_; (with_reducible refine (signatorylaw34_sane.calls  true _ A6.out).mono ?_); rintro e w18 ⟨rfl, hb⟩; refine ⟨_, rfl, ?_⟩; have n0_ := Aside0.mk (blk_below (g := gb739) (o := .cells #[.slice A0_0 l0_0.length c0_0, .slice A0_1 l0_1.length c0_1] 25 (0, 0)) (by (with_reducible repeat (first | refine blk_drewN ?_ _ | refine blk_drew ?_ | refine blk_alloc ?_ _)); exact BK739.out) hb); have n1_ := Aside0.mk (below_step (by repeat (first | (with_reducible first | exact HB.out | apply below_alloc | apply pw_below_drewN | apply below_drew1 | refine below_set ?_ GE739.out) | exact HB.out)) hb); clear BK739; clear HB; have BK739 := n0_; have HB := n1_; clear n0_ n1_; (try clear hb); (try clear hb2); (try clear hk); (try clear hi); have hcz19_0 : w18.cell? ⟨gb739, 0, none⟩ = some (.slice A0_0 l0_0.length c0_0) := (blk_cell BK739.out 0).trans rfl; have hcz19_1 : w18.cell? ⟨gb739, 1, none⟩ = some (.slice A0_1 l0_1.length c0_1) := (blk_cell BK739.out 1).trans rfl; have hfz19_0 := blk_frozen BK739.out 0; have hfz19_1 := blk_frozen BK739.out 1) | ((with_reducible refine gate_callee (f := 32) rfl ?_); refine goesL_ (some 32) rfl rfl Try.func32 (by kernel_rfl) rfl #[.agg #[.slice A0_0 l0_0.length c0_0, .slice A0_1 l0_1.length c0_1]] rfl (by (try simp only [List.map_toArray, List.map_cons, List.map_nil]); first | done | rfl | (simp only [List.length_drop, List.length_take]; rfl)) ?_; (with_reducible refine (signatoryref34_Small.calls k _ _ l0_0 _ _ l0_1 true _ ?side1 ?side2 ?side3 ?side4 A8.out).mono ?_); (case side1 => repeat (first | exact (Kd.C_below HR0_0.out HB.out) | (with_reducible refine Kd.C_alloc ?_ _) | (with_reducible refine Kd.C_drewN ?_ _) | (with_reducible refine Kd.C_drew ?_))); (case side2 => exact HC0_0.out); (case side3 => repeat (first | exact (Kd.C_below HR0_1.out HB.out) | (with_reducible refine Kd.C_alloc ?_ _) | (with_reducible refine Kd.C_drewN ?_ _) | (with_reducible refine Kd.C_drew ?_))); (case side4 => exact HC0_1.out); rintro e w20 ⟨rfl, hb⟩; refine ⟨_, rfl, ?_⟩; have n0_ := Aside0.mk (blk_below (g := gb739) (o := .cells #[.slice A0_0 l0_0.length c0_0, .slice A0_1 l0_1.length c0_1] 25 (0, 0)) (by (with_reducible repeat (first | refine blk_drewN ?_ _ | refine blk_drew ?_ | refine blk_alloc ?_ _)); exact BK739.out) hb); have n1_ := Aside0.mk (below_step (by repeat (first | (with_reducible first | exact HB.out | apply below_alloc | apply pw_below_drewN | apply below_drew1 | refine below_set ?_ GE739.out) | exact HB.out)) hb); clear BK739; clear HB; have BK739 := n0_; have HB := n1_; clear n0_ n1_; (try clear hb); (try clear hb2); (try clear hk); (try clear hi)) | ((with_reducible refine gate_callee (f := 61) rfl ?_); refine goesL_ (some 35) rfl rfl Try.func61 (by kernel_rfl) rfl #[.int .u64 a4] rfl (by (try simp only [List.map_toArray, List.map_cons, List.map_nil]); first | done | rfl | (simp only [List.length_drop, List.length_take]; rfl)) ?_; (with_reducible refine (signatorylaw34_people.calls k a4 t742 _ A10.out).mono ?_); rintro e w21 ⟨v743, rfl, ho0, hb⟩; refine ⟨_, rfl, ?_⟩; have n0_ := Aside0.mk (Kd.R_lower ho0 (below_size (by repeat (first | (with_reducible first | exact HB.out | apply below_alloc | apply pw_below_drewN | apply below_drew1 | refine below_set ?_ GE739.out) | exact HB.out)))); have n1_ := Aside0.mk (blk_below (g := gb739) (o := .cells #[.slice A0_0 l0_0.length c0_0, .slice A0_1 l0_1.length c0_1] 25 (0, 0)) (by (with_reducible repeat (first | refine blk_drewN ?_ _ | refine blk_drew ?_ | refine blk_alloc ?_ _)); exact BK739.out) hb); have n2_ := Aside0.mk (below_step (by repeat (first | (with_reducible first | exact HB.out | apply below_alloc | apply pw_below_drewN | apply below_drew1 | refine below_set ?_ GE739.out) | exact HB.out)) hb); clear BK739; clear HB; have HO744 := n0_; have BK739 := n1_; have HB := n2_; clear n0_ n1_ n2_; (try clear hb); (try clear hb2); (try clear hk); (try clear hi); (try clear ho0); have hcz22_0 : w21.cell? ⟨gb739, 0, none⟩ = some (.slice A0_0 l0_0.length c0_0) := (blk_cell BK739.out 0).trans rfl; have hcz22_1 : w21.cell? ⟨gb739, 1, none⟩ = some (.slice A0_1 l0_1.length c0_1) := (blk_cell BK739.out 1).trans rfl; have hfz22_0 := blk_frozen BK739.out 0; have hfz22_1 := blk_frozen BK739.out 1; obtain ⟨Ao23, co23, eo23⟩ := Kd.R_slice HO744.out; subst eo23) | ((with_reducible refine gate_callee (f := 49) rfl ?_); refine goesL_ (some 39) rfl rfl Try.func49 (by kernel_rfl) rfl #[.agg #[.slice A0_0 l0_0.length c0_0, .slice A0_1 l0_1.length c0_1], .slice Ao23 t742.length co23] rfl (by (try simp only [List.map_toArray, List.map_cons, List.map_nil]); first | done | rfl | (simp only [List.length_drop, List.length_take]; rfl)) ?_; (with_reducible refine (program_Refuses.calls _ _ l0_0 _ _ l0_1 _ _ t742 t745 true t749 _ ?side1 ?side2 ?side3 ?side4 ?side5 ?side6 A11.out).mono ?_); (case side1 => repeat (first | exact (Kd.C_below HR0_0.out HB.out) | (with_reducible refine Kd.C_alloc ?_ _) | (with_reducible refine Kd.C_drewN ?_ _) | (with_reducible refine Kd.C_drew ?_))); (case side2 => exact HC0_0.out); (case side3 => repeat (first | exact (Kd.C_below HR0_1.out HB.out) | (with_reducible refine Kd.C_alloc ?_ _) | (with_reducible refine Kd.C_drewN ?_ _) | (with_reducible refine Kd.C_drew ?_))); (case side4 => exact HC0_1.out); (case side5 => repeat (first | exact (Kd.R_reads' HO744.out).2.2 | (with_reducible refine Kd.C_alloc ?_ _) | (with_reducible refine Kd.C_drewN ?_ _) | (with_reducible refine Kd.C_drew ?_))); (case side6 => exact (Kd.R_reads' HO744.out).2.1); rintro e w24 ⟨v746, rfl, ho0, hb⟩; refine ⟨_, rfl, ?_⟩; have n0_ := Aside0.mk (Kd.R_elder' (by (with_reducible repeat (first | apply Kd.R_alloc | apply Kd.R_drewN | apply Kd.R_drew)); exact HO744.out) (Kd.R_base ho0) hb); have n1_ := Aside0.mk (Kd.R_lower (Kd.R_new' ho0 (Kd.R_lt (by (with_reducible repeat (first | apply Kd.R_alloc | apply Kd.R_drewN | apply Kd.R_drew)); exact HO744.out))) (below_size (by repeat (first | (with_reducible first | exact HB.out | apply below_alloc | apply pw_below_drewN | apply below_drew1 | refine below_set ?_ GE739.out) | exact HB.out)))); have n2_ := Aside0.mk (blk_below (g := gb739) (o := .cells #[.slice A0_0 l0_0.length c0_0, .slice A0_1 l0_1.length c0_1] 25 (0, 0)) (by (with_reducible repeat (first | refine blk_drewN ?_ _ | refine blk_drew ?_ | refine blk_alloc ?_ _)); exact BK739.out) hb); have n3_ := Aside0.mk (below_step (by repeat (first | (with_reducible first | exact HB.out | apply below_alloc | apply pw_below_drewN | apply below_drew1 | refine below_set ?_ GE739.out) | exact HB.out)) hb); clear HO744; clear BK739; clear HB; have HO744 := n0_; have HO747 := n1_; have BK739 := n2_; have HB := n3_; clear n0_ n1_ n2_ n3_; (try clear hb); (try clear hb2); (try clear hk); (try clear hi); (try clear ho0); have hcz25_0 : w24.cell? ⟨gb739, 0, none⟩ = some (.slice A0_0 l0_0.length c0_0) := (blk_cell BK739.out 0).trans rfl; have hcz25_1 : w24.cell? ⟨gb739, 1, none⟩ = some (.slice A0_1 l0_1.length c0_1) := (blk_cell BK739.out 1).trans rfl; have hfz25_0 := blk_frozen BK739.out 0; have hfz25_1 := blk_frozen BK739.out 1) | ((with_reducible refine gate_callee (f := 33) rfl ?_); refine goesL_ (some 55) rfl rfl Try.func33 (by kernel_rfl) rfl #[.agg #[.slice A0_0 l0_0.length c0_0, .slice A0_1 l0_1.length c0_1], .slice A3 l3.length c3] rfl (by (try simp only [List.map_toArray, List.map_cons, List.map_nil]); first | done | rfl | (simp only [List.length_drop, List.length_take]; rfl)) ?_; (with_reducible refine (signatorylaw34_random.calls k _ _ l0_0 _ _ l0_1 _ _ l3 t750 _ ?side1 ?side2 ?side3 ?side4 ?side5 ?side6 A14.out).mono ?_); (case side1 => repeat (first | exact (Kd.C_below HR0_0.out HB.out) | (with_reducible refine Kd.C_alloc ?_ _) | (with_reducible refine Kd.C_drewN ?_ _) | (with_reducible refine Kd.C_drew ?_))); (case side2 => exact HC0_0.out); (case side3 => repeat (first | exact (Kd.C_below HR0_1.out HB.out) | (with_reducible refine Kd.C_alloc ?_ _) | (with_reducible refine Kd.C_drewN ?_ _) | (with_reducible refine Kd.C_drew ?_))); (case side4 => exact HC0_1.out); (case side5 => repeat (first | exact (Kd.C_below HR3.out HB.out) | (with_reducible refine Kd.C_alloc ?_ _) | (with_reducible refine Kd.C_drewN ?_ _) | (with_reducible refine Kd.C_drew ?_))); (case side6 => exact HC3.out); rintro e w26 ⟨v751, rfl, ho0, hb⟩; refine ⟨_, rfl, ?_⟩; have n0_ := Aside0.mk (Kd.R_elder' (by (with_reducible repeat (first | apply Kd.R_alloc | apply Kd.R_drewN | apply Kd.R_drew)); exact HO744.out) (Kd.R_base ho0) hb); have n1_ := Aside0.mk (Kd.R_elder' (by (with_reducible repeat (first | apply Kd.R_alloc | apply Kd.R_drewN | apply Kd.R_drew)); exact HO747.out) (Kd.R_base ho0) hb); have n2_ := Aside0.mk (Kd.R_lower (Kd.R_new' (Kd.R_new' ho0 (Kd.R_lt (by (with_reducible repeat (first | apply Kd.R_alloc | apply Kd.R_drewN | apply Kd.R_drew)); exact HO744.out))) (Kd.R_lt (by (with_reducible repeat (first | apply Kd.R_alloc | apply Kd.R_drewN | apply Kd.R_drew)); exact HO747.out))) (below_size (by repeat (first | (with_reducible first | exact HB.out | apply below_alloc | apply pw_below_drewN | apply below_drew1 | refine below_set ?_ GE739.out) | exact HB.out)))); have n3_ := Aside0.mk (blk_below (g := gb739) (o := .cells #[.slice A0_0 l0_0.length c0_0, .slice A0_1 l0_1.length c0_1] 25 (0, 0)) (by (with_reducible repeat (first | refine blk_drewN ?_ _ | refine blk_drew ?_ | refine blk_alloc ?_ _)); exact BK739.out) hb); have n4_ := Aside0.mk (below_step (by repeat (first | (with_reducible first | exact HB.out | apply below_alloc | apply pw_below_drewN | apply below_drew1 | refine below_set ?_ GE739.out) | exact HB.out)) hb); clear HO744; clear HO747; clear BK739; clear HB; have HO744 := n0_; have HO747 := n1_; have HO752 := n2_; have BK739 := n3_; have HB := n4_; clear n0_ n1_ n2_ n3_ n4_; (try clear hb); (try clear hb2); (try clear hk); (try clear hi); (try clear ho0); obtain ⟨Ao27, co27, eo27⟩ := Kd.R_slice HO747.out; subst eo27; obtain ⟨Ao28, co28, eo28⟩ := Kd.R_slice HO752.out; subst eo28) | ((with_reducible refine gate_callee (f := 36) rfl ?_); refine goesL_ (some 65) rfl rfl Try.func36 (by kernel_rfl) rfl #[.int .i64 (Int.tmod (wrap64 (a2)) 1073741789), .int .i64 (wrap64 (1073741789 - (Int.tmod (wrap64 (a1)) 1073741789)))] rfl (by (try simp only [List.map_toArray, List.map_cons, List.map_nil]); first | done | rfl | (simp only [List.length_drop, List.length_take]; rfl)) ?_; (with_reducible refine (field_Add_m.calls (Int.tmod (wrap64 (a2)) 1073741789) (wrap64 (1073741789 - (Int.tmod (wrap64 (a1)) 1073741789))) t753 _ A16.out).mono ?_); rintro e w29 ⟨rfl, hb⟩; refine ⟨_, rfl, ?_⟩; have n0_ := Aside0.mk (Kd.R_below (by (with_reducible repeat (first | apply Kd.R_alloc | apply Kd.R_drewN | apply Kd.R_drew)); exact HO744.out) hb); have n1_ := Aside0.mk (Kd.R_below (by (with_reducible repeat (first | apply Kd.R_alloc | apply Kd.R_drewN | apply Kd.R_drew)); exact HO747.out) hb); have n2_ := Aside0.mk (Kd.R_below (by (with_reducible repeat (first | apply Kd.R_alloc | apply Kd.R_drewN | apply Kd.R_drew)); exact HO752.out) hb); have n3_ := Aside0.mk (blk_below (g := gb739) (o := .cells #[.slice A0_0 l0_0.length c0_0, .slice A0_1 l0_1.length c0_1] 25 (0, 0)) (by (with_reducible repeat (first | refine blk_drewN ?_ _ | refine blk_drew ?_ | refine blk_alloc ?_ _)); exact BK739.out) hb); have n4_ := Aside0.mk (below_step (by repeat (first | (with_reducible first | exact HB.out | apply below_alloc | apply pw_below_drewN | apply below_drew1 | refine below_set ?_ GE739.out) | exact HB.out)) hb); clear HO744; clear HO747; clear HO752; clear BK739; clear HB; have HO744 := n0_; have HO747 := n1_; have HO752 := n2_; have BK739 := n3_; have HB := n4_; clear n0_ n1_ n2_ n3_ n4_; (try clear hb); (try clear hb2); (try clear hk); (try clear hi)) | ((with_reducible refine gate_dst (N := 66) rfl ?_); (try (refine gate_guard (by rfl) ?_; dsimp only)); refine Kd.R_lit (Kd.int .i64) _ 3 ?hg (N := 66) ?hd (xs := ([] : List Int)) (inner := []) (ok := fun _ => True) (okp := fun _ => True) ?hr ?hp (fun _ hk => hk) trivial (Below.refl _ _) (Nat.le_refl _) (by simp) ?_; (case hd => rfl); (case hg => rfl); (case hr => first | (go_simp; done) | (go_simp; rfl)); (case hp => exact (Reps.none _ _)); intro v755 w30 ho31 hb hg_ hnew_; clear hg_ hnew_; (first | rw [← Ny754.out] at ho31 | (simp only [Int.reduceToNat] at ho31; rw [← Ny754.out] at ho31)); have n0_ := Aside0.mk (Kd.R_elder' (by (with_reducible repeat (first | apply Kd.R_alloc | apply Kd.R_drewN | apply Kd.R_drew)); exact HO744.out) (Kd.R_base ho31) hb); have n1_ := Aside0.mk (Kd.R_elder' (by (with_reducible repeat (first | apply Kd.R_alloc | apply Kd.R_drewN | apply Kd.R_drew)); exact HO747.out) (Kd.R_base ho31) hb); have n2_ := Aside0.mk (Kd.R_elder' (by (with_reducible repeat (first | apply Kd.R_alloc | apply Kd.R_drewN | apply Kd.R_drew)); exact HO752.out) (Kd.R_base ho31) hb); have n3_ := Aside0.mk (Kd.R_lower (Kd.R_new' (Kd.R_new' (Kd.R_new' ho31 (Kd.R_lt (by (with_reducible repeat (first | apply Kd.R_alloc | apply Kd.R_drewN | apply Kd.R_drew)); exact HO744.out))) (Kd.R_lt (by (with_reducible repeat (first | apply Kd.R_alloc | apply Kd.R_drewN | apply Kd.R_drew)); exact HO747.out))) (Kd.R_lt (by (with_reducible repeat (first | apply Kd.R_alloc | apply Kd.R_drewN | apply Kd.R_drew)); exact HO752.out))) (below_size (by repeat (first | (with_reducible first | exact HB.out | apply below_alloc | apply pw_below_drewN | apply below_drew1 | refine below_set ?_ GE739.out) | exact HB.out)))); have n4_ := Aside0.mk (blk_below (g := gb739) (o := .cells #[.slice A0_0 l0_0.length c0_0, .slice A0_1 l0_1.length c0_1] 25 (0, 0)) (by (with_reducible repeat (first | refine blk_drewN ?_ _ | refine blk_drew ?_ | refine blk_alloc ?_ _)); exact BK739.out) hb); have n5_ := Aside0.mk (below_step (by repeat (first | (with_reducible first | exact HB.out | apply below_alloc | apply pw_below_drewN | apply below_drew1 | refine below_set ?_ GE739.out) | exact HB.out)) hb); clear HO744; clear HO747; clear HO752; clear BK739; clear HB; have HO744 := n0_; have HO747 := n1_; have HO752 := n2_; have HO756 := n3_; have BK739 := n4_; have HB := n5_; clear n0_ n1_ n2_ n3_ n4_ n5_; clear hb ho31))
      go_loopg [19, 69] k (fun kq v19 v69 w' => ∃ (x19_1 : List Int) (x69_1 : Int), v69 = .int .i64 x69_1 ∧ Aside0 (signatorylaw34_DealingHides.l0 kq t742 t745 (Int.tmod (wrap64 (a1)) 1073741789) (Int.tmod (wrap64 (a2)) 1073741789) t750 t753 x19_1 t750 (t750.length : Int) x69_1 l0_0 l0_1 = some r) ∧ Aside0 (kq ≤ k) ∧ Aside0 (Kd.R (Kd.int .i64) 3 w' w.heap.size (fun k_ => some k_ ≠ ((.slice Ao27 t745.length co27) : Value).ownBlock ∧ some k_ ≠ ((.slice Ao28 t750.length co28) : Value).ownBlock ∧ some k_ ≠ (v19 : Value).ownBlock ∧ some k_ ≠ ((.slice Ao28 t750.length co28) : Value).ownBlock) (.slice Ao23 t742.length co23) t742) ∧ Aside0 (Kd.R (Kd.int .i64) 3 w' w.heap.size (fun k_ => some k_ ≠ ((.slice Ao23 t742.length co23) : Value).ownBlock ∧ some k_ ≠ ((.slice Ao28 t750.length co28) : Value).ownBlock ∧ some k_ ≠ (v19 : Value).ownBlock ∧ some k_ ≠ ((.slice Ao28 t750.length co28) : Value).ownBlock) (.slice Ao27 t745.length co27) t745) ∧ Aside0 (Kd.R (Kd.int .i64) 3 w' w.heap.size (fun k_ => some k_ ≠ ((.slice Ao23 t742.length co23) : Value).ownBlock ∧ some k_ ≠ ((.slice Ao27 t745.length co27) : Value).ownBlock ∧ some k_ ≠ (v19 : Value).ownBlock) (.slice Ao28 t750.length co28) t750) ∧ Aside0 (Kd.R (Kd.int .i64) 3 w' w.heap.size (fun k_ => some k_ ≠ ((.slice Ao23 t742.length co23) : Value).ownBlock ∧ some k_ ≠ ((.slice Ao27 t745.length co27) : Value).ownBlock ∧ some k_ ≠ ((.slice Ao28 t750.length co28) : Value).ownBlock ∧ some k_ ≠ ((.slice Ao28 t750.length co28) : Value).ownBlock) v19 x19_1) ∧ Aside0 (Kd.R (Kd.int .i64) 3 w' w.heap.size (fun k_ => some k_ ≠ ((.slice Ao23 t742.length co23) : Value).ownBlock ∧ some k_ ≠ ((.slice Ao27 t745.length co27) : Value).ownBlock ∧ some k_ ≠ (v19 : Value).ownBlock) (.slice Ao28 t750.length co28) t750) ∧ Aside0 (w'.heap[gb739]? = some (.cells #[(.slice A0_0 l0_0.length c0_0), (.slice A0_1 l0_1.length c0_1)] 25 (0, 0))) ∧ Aside0 (Below w.heap.size w w'))
      case atStart => exact ⟨(y754), (0), (by first | rfl | (simp; done) | (simp [*]; done)), H', ⟨Nat.le_refl _⟩, ⟨by (with_reducible repeat (first | apply Kd.R_alloc | apply Kd.R_drewN | apply Kd.R_drew)); exact Kd.R_mono HO744.out (fun _ hk => ⟨hk.1.1.2, ⟨hk.1.2, ⟨hk.2, hk.1.2⟩⟩⟩)⟩, ⟨by (with_reducible repeat (first | apply Kd.R_alloc | apply Kd.R_drewN | apply Kd.R_drew)); exact Kd.R_mono HO747.out (fun _ hk => ⟨hk.1.1.2, ⟨hk.1.2, ⟨hk.2, hk.1.2⟩⟩⟩)⟩, ⟨by (with_reducible repeat (first | apply Kd.R_alloc | apply Kd.R_drewN | apply Kd.R_drew)); exact Kd.R_mono HO752.out (fun _ hk => ⟨hk.1.1.2, ⟨hk.1.2, hk.2⟩⟩)⟩, ⟨by (with_reducible repeat (first | apply Kd.R_alloc | apply Kd.R_drewN | apply Kd.R_drew)); exact Kd.R_mono HO756.out (fun _ hk => ⟨hk.1.1.2, ⟨hk.1.2, ⟨hk.2, hk.2⟩⟩⟩)⟩, ⟨by (with_reducible repeat (first | apply Kd.R_alloc | apply Kd.R_drewN | apply Kd.R_drew)); exact Kd.R_mono HO752.out (fun _ hk => ⟨hk.1.1.2, ⟨hk.1.2, hk.2⟩⟩)⟩, ⟨by (with_reducible repeat (first | refine blk_drewN ?_ _ | refine blk_drew ?_ | refine blk_alloc ?_ _)); exact BK739.out⟩, ⟨by repeat (first | (with_reducible first | exact HB.out | apply below_alloc | apply pw_below_drewN | apply below_drew1 | refine below_set ?_ GE739.out) | exact HB.out)⟩⟩
      case round =>
       clear H'
       try clear c1
       try clear c2
       try clear p2
       try clear c3
       try clear c4
       try clear c6
       try clear p6
       try clear c7
       try clear c9
       try clear c12
       try clear c12b0
       try clear c12b1
       try clear c13
       try clear c14
       try clear c15
       try clear c15b0
       try clear c15b1
       try clear c20
       try clear hcz19_0
       try clear hcz19_1
       try clear hcz22_0
       try clear hcz22_1
       try clear hcz25_0
       try clear hcz25_1
       try clear hfz19_0
       try clear hfz19_1
       try clear hfz22_0
       try clear hfz22_1
       try clear hfz25_0
       try clear hfz25_1
       obtain ⟨x19_1, x69_1, rfl, HA, HK1, HO_11, HO_12, HO_17, HO_19, HO_67, BK739, HB⟩ := hrel
       cases gk with
       | zero => exact absurd HA.out (by simp [signatorylaw34_DealingHides.l0])
       | succ k1 =>
        have H := HA.out
        clear HA
        simp only [signatorylaw34_DealingHides.l0] at H
        by_cases c32 : x69_1 < (t750.length : Int)
        ·rw [if_pos c32] at H
         have c32b0 : decide (x69_1 < (t750.length : Int)) = true := decide_eq_true c32
         clear c32
         by_cases c33 : 0 ≤ x69_1
         ·rw [if_pos c33] at H
          have c33b0 : decide (0 ≤ x69_1) = true := decide_eq_true c33
          clear c33
          by_cases c34 : x69_1 < (t750.length : Int)
          ·rw [if_pos c34] at H
           have c34b0 : decide (x69_1 < (t750.length : Int)) = true := decide_eq_true c34
           clear c34
           obtain ⟨ji35, hji35⟩ : ∃ j_ : Int, (wrap64 (x69_1 + 1)) = j_ := ⟨_, rfl⟩
           replace H : (if 0 ≤ (ji35) then (if (ji35) < (t745.length : Int) then ((field_Mul_m.f t753 (rd t745 (ji35))).bind fun t759 => ((field_Add_m.f (rd t750 x69_1) t759).bind fun t760 => (if x19_1.length < 17592186044416 then (signatorylaw34_DealingHides.l0 k1 t742 t745 (Int.tmod (wrap64 (a1)) 1073741789) (Int.tmod (wrap64 (a2)) 1073741789) t750 t753 (x19_1 ++ [t760]) t750 (t750.length : Int) ji35 l0_0 l0_1) else (none)))) else (none)) else (none)) = some r := by first | (rw [hji35] at H; exact H) | (simp only [hji35] at H ⊢; exact H)
           have hji35w : (IntKind.i64.wrap (x69_1 + 1)) = ji35 := (i64_w _).trans hji35
           by_cases c36 : 0 ≤ (ji35)
           ·rw [if_pos c36] at H
            have c36b0 : decide (0 ≤ (ji35)) = true := decide_eq_true c36
            clear c36
            by_cases c37 : (ji35) < (t745.length : Int)
            ·rw [if_pos c37] at H
             have c37b0 : decide ((ji35) < (t745.length : Int)) = true := decide_eq_true c37
             clear c37
             replace H := Option.bind_eq_some_iff.mp H
             obtain ⟨t759, A380, H⟩ := H
             replace H : ((field_Add_m.f (rd t750 x69_1) t759).bind fun t760 => (if x19_1.length < 17592186044416 then (signatorylaw34_DealingHides.l0 k1 t742 t745 (Int.tmod (wrap64 (a1)) 1073741789) (Int.tmod (wrap64 (a2)) 1073741789) t750 t753 (x19_1 ++ [t760]) t750 (t750.length : Int) ji35 l0_0 l0_1) else (none))) = some r := H
             have A38 := Aside0.mk A380
             clear A380
             replace H := Option.bind_eq_some_iff.mp H
             obtain ⟨t760, A390, H⟩ := H
             replace H : (if x19_1.length < 17592186044416 then (signatorylaw34_DealingHides.l0 k1 t742 t745 (Int.tmod (wrap64 (a1)) 1073741789) (Int.tmod (wrap64 (a2)) 1073741789) t750 t753 (x19_1 ++ [t760]) t750 (t750.length : Int) ji35 l0_0 l0_1) else (none)) = some r := H
             have A39 := Aside0.mk A390
             clear A390
             by_cases c40 : x19_1.length < 17592186044416
             ·rw [if_pos c40] at H
              have LMc40 := Aside0.mk c40
              clear c40
              obtain ⟨y761, hy761⟩ : ∃ y_ : List Int, y_ = (x19_1 ++ [t760]) := ⟨_, rfl⟩
              replace H : (signatorylaw34_DealingHides.l0 k1 t742 t745 (Int.tmod (wrap64 (a1)) 1073741789) (Int.tmod (wrap64 (a2)) 1073741789) t750 t753 y761 t750 (t750.length : Int) ji35 l0_0 l0_1) = some r := by first | (rw [hy761]; with_reducible exact H) | (have H2_ := (Option.bind_some _ _).symm.trans H; rw [hy761]; with_reducible exact H2_) | (have H2_ := (Option.bind_some _ _).symm.trans H; with_reducible exact H2_) | with_reducible exact H | (rw [hy761]; exact H) | exact H
              have Ny761 := Aside0.mk hy761
              clear hy761
              have H' := Aside0.mk H
              clear H
              have p757 : 0 ≤ (x69_1 : Int) := of_decide_eq_true (by first | (with_reducible assumption) | assumption)
              have q757 : x69_1 < (t750.length : Int) := of_decide_eq_true (by first | (with_reducible assumption) | assumption)
              obtain ⟨ad757, e757, hx757_0⟩ := Kd.at_int (Kd.R_reads' HO_67.out).2.2 x69_1 p757 q757
              cases e757
              replace p757 := eq_true p757
              replace q757 := eq_true q757
              have p758 : 0 ≤ ((ji35) : Int) := of_decide_eq_true (by first | (with_reducible assumption) | assumption)
              have q758 : (ji35) < (t745.length : Int) := of_decide_eq_true (by first | (with_reducible assumption) | assumption)
              obtain ⟨ad758, e758, hx758_0⟩ := Kd.at_int (Kd.R_reads' HO_12.out).2.2 (ji35) p758 q758
              cases e758
              replace p758 := eq_true p758
              replace q758 := eq_true q758
              go_wp2_with (first | ((with_reducible refine gate_callee (f := 65) rfl ?_); refine goesL_ (some 82) rfl rfl Try.func65 (by kernel_rfl) rfl #[.int .i64 t753, .int .i64 (rd t745 (ji35))] rfl (by (try simp only [List.map_toArray, List.map_cons, List.map_nil]); first | done | (simp only [hji35]; rfl) | rfl | (simp only [List.length_drop, List.length_take]; rfl)) ?_; (with_reducible refine (field_Mul_m.calls t753 (rd t745 (ji35)) t759 _ A38.out).mono ?_); rintro e w' ⟨rfl, ⟨nd, rfl⟩⟩; refine ⟨_, rfl, ?_⟩) | ((with_reducible refine gate_callee (f := 36) rfl ?_); refine goesL_ (some 83) rfl rfl Try.func36 (by kernel_rfl) rfl #[.int .i64 (rd t750 x69_1), .int .i64 t759] rfl (by (try simp only [List.map_toArray, List.map_cons, List.map_nil]); first | done | rfl | (simp only [List.length_drop, List.length_take]; rfl)) ?_; (with_reducible refine (field_Add_m.calls (rd t750 x69_1) t759 t760 _ A39.out).mono ?_); rintro e w41 ⟨rfl, hb⟩; refine ⟨_, rfl, ?_⟩; have n0_ := Aside0.mk (Kd.R_below (by (with_reducible repeat (first | apply Kd.R_alloc | apply Kd.R_drewN | apply Kd.R_drew)); exact HO_11.out) hb); have n1_ := Aside0.mk (Kd.R_below (by (with_reducible repeat (first | apply Kd.R_alloc | apply Kd.R_drewN | apply Kd.R_drew)); exact HO_12.out) hb); have n2_ := Aside0.mk (Kd.R_below (by (with_reducible repeat (first | apply Kd.R_alloc | apply Kd.R_drewN | apply Kd.R_drew)); exact HO_17.out) hb); have n3_ := Aside0.mk (Kd.R_below (by (with_reducible repeat (first | apply Kd.R_alloc | apply Kd.R_drewN | apply Kd.R_drew)); exact HO_19.out) hb); have n4_ := Aside0.mk (Kd.R_below (by (with_reducible repeat (first | apply Kd.R_alloc | apply Kd.R_drewN | apply Kd.R_drew)); exact HO_67.out) hb); have n5_ := Aside0.mk (blk_below (g := gb739) (o := .cells #[.slice A0_0 l0_0.length c0_0, .slice A0_1 l0_1.length c0_1] 25 (0, 0)) (by (with_reducible repeat (first | refine blk_drewN ?_ _ | refine blk_drew ?_ | refine blk_alloc ?_ _)); exact BK739.out) hb); have n6_ := Aside0.mk (below_step (by repeat (first | (with_reducible first | exact HB.out | apply below_alloc | apply pw_below_drewN | apply below_drew1 | refine below_set ?_ GE739.out) | exact HB.out)) hb); clear HO_11; clear HO_12; clear HO_17; clear HO_19; clear HO_67; clear BK739; clear HB; have HO_11 := n0_; have HO_12 := n1_; have HO_17 := n2_; have HO_19 := n3_; have HO_67 := n4_; have BK739 := n5_; have HB := n6_; clear n0_ n1_ n2_ n3_ n4_ n5_ n6_; (try clear hb); (try clear hb2); (try clear hk); (try clear hi)) | ((with_reducible refine gate_builtin (b := .append) (xs := #[.tmp 74, .tmp 84]) rfl ?_); (try (refine gate_guard (by rfl) ?_; dsimp only)); at_builtin; refine Kd.R_append (Kd.int .i64) (w0 := w) w.heap.size rfl (.tmp 74) (.tmp 84) 23 3 (.int .i64 0) 8 rfl Try.underlying23 info3 rfl (by decide) (by omega) u19 x19_1 t760 [.int .i64 t760] (fun k_ => some k_ ≠ (.slice Ao23 t742.length co23 : Value).ownBlock ∧ some k_ ≠ (.slice (some ad758) t745.length co27 : Value).ownBlock ∧ some k_ ≠ (.slice (some ad757) t750.length co28 : Value).ownBlock ∧ some k_ ≠ (.slice (some ad757) t750.length co28 : Value).ownBlock) (fun _ => False) rfl rfl ?aP (fun _ hk => hk.elim) ?aF ?aO ?aB ?aS ?aL ?_; (case aP => exact rfl); (case aB => exact (by repeat (first | (with_reducible first | exact HB.out | apply below_alloc | apply pw_below_drewN | apply below_drew1 | refine below_set ?_ GE739.out) | exact HB.out))); (case aF => exact (fun k_ hk => ⟨Kd.fresh' (Kd.R_lt (by (with_reducible repeat (first | apply Kd.R_alloc | apply Kd.R_drewN | apply Kd.R_drew)); exact HO_11.out)) k_ hk, Kd.fresh' (Kd.R_lt (by (with_reducible repeat (first | apply Kd.R_alloc | apply Kd.R_drewN | apply Kd.R_drew)); exact HO_12.out)) k_ hk, Kd.fresh' (Kd.R_lt (by (with_reducible repeat (first | apply Kd.R_alloc | apply Kd.R_drewN | apply Kd.R_drew)); exact HO_17.out)) k_ hk, Kd.fresh' (Kd.R_lt (by (with_reducible repeat (first | apply Kd.R_alloc | apply Kd.R_drewN | apply Kd.R_drew)); exact HO_67.out)) k_ hk⟩)); (case aO => exact (by (with_reducible repeat (first | apply Kd.R_alloc | apply Kd.R_drewN | apply Kd.R_drew)); exact HO_19.out)); (case aS => exact (below_size (by repeat (first | (with_reducible first | exact HB.out | apply below_alloc | apply pw_below_drewN | apply below_drew1 | refine below_set ?_ GE739.out) | exact HB.out)))); (case aL => have := LMc40.out; omega); intro v762 w42 ho hb hg hat; rw [← Ny761.out] at ho; have n0_ := Aside0.mk (Kd.R_after (ok := (fun k_ => some k_ ≠ (.slice (some ad758) t745.length co27 : Value).ownBlock ∧ some k_ ≠ (.slice (some ad757) t750.length co28 : Value).ownBlock ∧ some k_ ≠ (.slice (some ad757) t750.length co28 : Value).ownBlock)) (by (with_reducible repeat (first | apply Kd.R_alloc | apply Kd.R_drewN | apply Kd.R_drew)); exact Kd.R_mono HO_11.out (fun _ hk => ⟨⟨hk.1, ⟨hk.2.1, hk.2.2.2⟩⟩, hk.2.2.1⟩)) hg hat); have n1_ := Aside0.mk (Kd.R_after (ok := (fun k_ => some k_ ≠ (.slice Ao23 t742.length co23 : Value).ownBlock ∧ some k_ ≠ (.slice (some ad757) t750.length co28 : Value).ownBlock ∧ some k_ ≠ (.slice (some ad757) t750.length co28 : Value).ownBlock)) (by (with_reducible repeat (first | apply Kd.R_alloc | apply Kd.R_drewN | apply Kd.R_drew)); exact Kd.R_mono HO_12.out (fun _ hk => ⟨⟨hk.1, ⟨hk.2.1, hk.2.2.2⟩⟩, hk.2.2.1⟩)) hg hat); have n2_ := Aside0.mk (Kd.R_after (ok := (fun k_ => some k_ ≠ (.slice Ao23 t742.length co23 : Value).ownBlock ∧ some k_ ≠ (.slice (some ad758) t745.length co27 : Value).ownBlock)) (by (with_reducible repeat (first | apply Kd.R_alloc | apply Kd.R_drewN | apply Kd.R_drew)); exact Kd.R_mono HO_17.out (fun _ hk => ⟨⟨hk.1, hk.2.1⟩, hk.2.2⟩)) hg hat); have n3_ := Aside0.mk (Kd.R_after (ok := (fun k_ => some k_ ≠ (.slice Ao23 t742.length co23 : Value).ownBlock ∧ some k_ ≠ (.slice (some ad758) t745.length co27 : Value).ownBlock)) (by (with_reducible repeat (first | apply Kd.R_alloc | apply Kd.R_drewN | apply Kd.R_drew)); exact Kd.R_mono HO_67.out (fun _ hk => ⟨⟨hk.1, hk.2.1⟩, hk.2.2⟩)) hg hat); have n4_ := Aside0.mk (blk_grown (g := gb739) (o := .cells #[.slice A0_0 l0_0.length c0_0, .slice A0_1 l0_1.length c0_1] 25 (0, 0)) (by (with_reducible repeat (first | refine blk_drewN ?_ _ | refine blk_drew ?_ | refine blk_alloc ?_ _)); exact BK739.out) hg (Kd.R_ne HO_19.out BK739.out (by decide))); have n5_ := Aside0.mk (hb); have n6_ := Aside0.mk (ho); clear HO_11; clear HO_12; clear HO_17; clear HO_67; clear BK739; clear HB; clear HO_19; have HO_11 := n0_; have HO_12 := n1_; have HO_17 := n2_; have HO_67 := n3_; have BK739 := n4_; have HB := n5_; have HO763 := n6_; clear n0_ n1_ n2_ n3_ n4_ n5_ n6_; clear ho hb hg hat))
              go_roundg k1
              case measure => have := HK1.out; omega
              case rel => exact ⟨(y761), (ji35), (by first | rfl | (simp; done) | (simp only [← hji35] <;> (first | rfl | simp)) | (simp [*]; done)), H', ⟨by have := HK1.out; omega⟩, ⟨by (with_reducible repeat (first | apply Kd.R_alloc | apply Kd.R_drewN | apply Kd.R_drew)); exact Kd.R_mono HO_11.out (fun _ hk => ⟨hk.1.1, ⟨hk.1.2.1, ⟨hk.2, hk.1.2.2⟩⟩⟩)⟩, ⟨by (with_reducible repeat (first | apply Kd.R_alloc | apply Kd.R_drewN | apply Kd.R_drew)); exact Kd.R_mono HO_12.out (fun _ hk => ⟨hk.1.1, ⟨hk.1.2.1, ⟨hk.2, hk.1.2.2⟩⟩⟩)⟩, ⟨by (with_reducible repeat (first | apply Kd.R_alloc | apply Kd.R_drewN | apply Kd.R_drew)); exact Kd.R_mono HO_17.out (fun _ hk => ⟨hk.1.1, ⟨hk.1.2, hk.2⟩⟩)⟩, ⟨by (with_reducible repeat (first | apply Kd.R_alloc | apply Kd.R_drewN | apply Kd.R_drew)); exact HO763.out⟩, ⟨by (with_reducible repeat (first | apply Kd.R_alloc | apply Kd.R_drewN | apply Kd.R_drew)); exact Kd.R_mono HO_67.out (fun _ hk => ⟨hk.1.1, ⟨hk.1.2, hk.2⟩⟩)⟩, ⟨by (with_reducible repeat (first | refine blk_drewN ?_ _ | refine blk_drew ?_ | refine blk_alloc ?_ _)); exact BK739.out⟩, ⟨by repeat (first | (with_reducible first | exact HB.out | apply below_alloc | apply pw_below_drewN | apply below_drew1 | refine below_set ?_ GE739.out) | exact HB.out)⟩⟩
             ·rw [if_neg c40] at H
              exact absurd H (by simp)
            ·rw [if_neg c37] at H
             exact absurd H (by simp)
           ·rw [if_neg c36] at H
            exact absurd H (by simp)
          ·rw [if_neg c34] at H
           exact absurd H (by simp)
         ·rw [if_neg c33] at H
          exact absurd H (by simp)
        ·rw [if_neg c32] at H
         have c32b0 : decide (x69_1 < (t750.length : Int)) = false := decide_eq_false c32
         clear c32
         replace H := Option.bind_eq_some_iff.mp H
         obtain ⟨⟨t764, t767, t770⟩, A430, H⟩ := H
         replace H : ((dealing_Deal.f l0_0 l0_1 (Int.tmod (wrap64 (a2)) 1073741789) x19_1).bind fun bt771 => (if t770 = 0 then (if bt771.2.2 = 0 then (if (t764.length : Int) = (l0_0.length : Int) then (if (bt771.1.length : Int) = (l0_0.length : Int) then (signatorylaw34_DealingHides.l1 k1 t742 t764 bt771.1 (t764.length : Int) 0 l0_0 l0_1) else (none)) else (none)) else (none)) else (none))) = some r := H
         have A43 := Aside0.mk A430
         clear A430
         replace H := Option.bind_eq_some_iff.mp H
         obtain ⟨⟨t771, t774, t777⟩, A440, H⟩ := H
         replace H : (if t770 = 0 then (if t777 = 0 then (if (t764.length : Int) = (l0_0.length : Int) then (if (t771.length : Int) = (l0_0.length : Int) then (signatorylaw34_DealingHides.l1 k1 t742 t764 t771 (t764.length : Int) 0 l0_0 l0_1) else (none)) else (none)) else (none)) else (none)) = some r := H
         have A44 := Aside0.mk A440
         clear A440
         by_cases c45 : t770 = 0
         ·rw [if_pos c45] at H
          have c45b0 : (t770 == 0) = true := beq_iff_eq.mpr c45
          have c45b1 : (t770 != 0) = false := bne_eq_false_iff_eq.mpr c45
          clear c45
          by_cases c46 : t777 = 0
          ·rw [if_pos c46] at H
           have c46b0 : (t777 == 0) = true := beq_iff_eq.mpr c46
           have c46b1 : (t777 != 0) = false := bne_eq_false_iff_eq.mpr c46
           clear c46
           by_cases c47 : (t764.length : Int) = (l0_0.length : Int)
           ·rw [if_pos c47] at H
            have c47b0 : ((t764.length : Int) == (l0_0.length : Int)) = true := beq_iff_eq.mpr c47
            have c47b1 : ((t764.length : Int) != (l0_0.length : Int)) = false := bne_eq_false_iff_eq.mpr c47
            have c47b2 : (t764.length == l0_0.length) = true := by first | simpa using c47 | (simp at c47 ⊢; omega)
            clear c47
            by_cases c48 : (t771.length : Int) = (l0_0.length : Int)
            ·rw [if_pos c48] at H
             have c48b0 : ((t771.length : Int) == (l0_0.length : Int)) = true := beq_iff_eq.mpr c48
             have c48b1 : ((t771.length : Int) != (l0_0.length : Int)) = false := bne_eq_false_iff_eq.mpr c48
             have c48b2 : (t771.length == l0_0.length) = true := by first | simpa using c48 | (simp at c48 ⊢; omega)
             clear c48
             have H' := Aside0.mk H
             clear H
             have hcz49_0 : wr.cell? ⟨gb739, 0, none⟩ = some (.slice A0_0 l0_0.length c0_0) := (blk_cell BK739.out 0).trans rfl
             have hcz49_1 : wr.cell? ⟨gb739, 1, none⟩ = some (.slice A0_1 l0_1.length c0_1) := (blk_cell BK739.out 1).trans rfl
             have hfz49_0 := blk_frozen BK739.out 0
             have hfz49_1 := blk_frozen BK739.out 1
             go_wp2_with (first | ((with_reducible refine gate_callee (f := 22) rfl ?_); refine goesL_ (some 91) rfl rfl Try.func22 (by kernel_rfl) rfl #[.agg #[.slice A0_0 l0_0.length c0_0, .slice A0_1 l0_1.length c0_1], .int .i64 (Int.tmod (wrap64 (a1)) 1073741789), .slice Ao28 t750.length co28] rfl (by (try simp only [List.map_toArray, List.map_cons, List.map_nil]); first | done | rfl | (simp only [List.length_drop, List.length_take]; rfl)) ?_; (with_reducible refine (dealing_Deal.calls _ _ l0_0 _ _ l0_1 (Int.tmod (wrap64 (a1)) 1073741789) _ _ t750 t764 t767 t770 _ ?side1 ?side2 ?side3 ?side4 ?side5 ?side6 A43.out).mono ?_); (case side1 => repeat (first | exact (Kd.C_below HR0_0.out HB.out) | (with_reducible refine Kd.C_alloc ?_ _) | (with_reducible refine Kd.C_drewN ?_ _) | (with_reducible refine Kd.C_drew ?_))); (case side2 => exact HC0_0.out); (case side3 => repeat (first | exact (Kd.C_below HR0_1.out HB.out) | (with_reducible refine Kd.C_alloc ?_ _) | (with_reducible refine Kd.C_drewN ?_ _) | (with_reducible refine Kd.C_drew ?_))); (case side4 => exact HC0_1.out); (case side5 => repeat (first | exact (Kd.R_reads' HO_17.out).2.2 | (with_reducible refine Kd.C_alloc ?_ _) | (with_reducible refine Kd.C_drewN ?_ _) | (with_reducible refine Kd.C_drew ?_))); (case side6 => exact (Kd.R_reads' HO_17.out).2.1); rintro e w50 ⟨v765, v768, rfl, ho0, ho1, hb⟩; refine ⟨_, rfl, ?_⟩; have n0_ := Aside0.mk (Kd.R_elder' (by (with_reducible repeat (first | apply Kd.R_alloc | apply Kd.R_drewN | apply Kd.R_drew)); exact HO_11.out) (Kd.R_base ho1) hb); have n1_ := Aside0.mk (Kd.R_elder' (by (with_reducible repeat (first | apply Kd.R_alloc | apply Kd.R_drewN | apply Kd.R_drew)); exact HO_12.out) (Kd.R_base ho1) hb); have n2_ := Aside0.mk (Kd.R_elder' (by (with_reducible repeat (first | apply Kd.R_alloc | apply Kd.R_drewN | apply Kd.R_drew)); exact HO_17.out) (Kd.R_base ho1) hb); have n3_ := Aside0.mk (Kd.R_elder' (by (with_reducible repeat (first | apply Kd.R_alloc | apply Kd.R_drewN | apply Kd.R_drew)); exact HO_19.out) (Kd.R_base ho1) hb); have n4_ := Aside0.mk (Kd.R_elder' (by (with_reducible repeat (first | apply Kd.R_alloc | apply Kd.R_drewN | apply Kd.R_drew)); exact HO_67.out) (Kd.R_base ho1) hb); have n5_ := Aside0.mk (Kd.R_lower ho0 (below_size (by repeat (first | (with_reducible first | exact HB.out | apply below_alloc | apply pw_below_drewN | apply below_drew1 | refine below_set ?_ GE739.out) | exact HB.out)))); have n6_ := Aside0.mk (Kd.R_lower (Kd.R_new' (Kd.R_new' (Kd.R_new' (Kd.R_new' (Kd.R_new' ho1 (Kd.R_lt (by (with_reducible repeat (first | apply Kd.R_alloc | apply Kd.R_drewN | apply Kd.R_drew)); exact HO_11.out))) (Kd.R_lt (by (with_reducible repeat (first | apply Kd.R_alloc | apply Kd.R_drewN | apply Kd.R_drew)); exact HO_12.out))) (Kd.R_lt (by (with_reducible repeat (first | apply Kd.R_alloc | apply Kd.R_drewN | apply Kd.R_drew)); exact HO_17.out))) (Kd.R_lt (by (with_reducible repeat (first | apply Kd.R_alloc | apply Kd.R_drewN | apply Kd.R_drew)); exact HO_19.out))) (Kd.R_lt (by (with_reducible repeat (first | apply Kd.R_alloc | apply Kd.R_drewN | apply Kd.R_drew)); exact HO_67.out))) (below_size (by repeat (first | (with_reducible first | exact HB.out | apply below_alloc | apply pw_below_drewN | apply below_drew1 | refine below_set ?_ GE739.out) | exact HB.out)))); have n7_ := Aside0.mk (blk_below (g := gb739) (o := .cells #[.slice A0_0 l0_0.length c0_0, .slice A0_1 l0_1.length c0_1] 25 (0, 0)) (by (with_reducible repeat (first | refine blk_drewN ?_ _ | refine blk_drew ?_ | refine blk_alloc ?_ _)); exact BK739.out) hb); have n8_ := Aside0.mk (below_step (by repeat (first | (with_reducible first | exact HB.out | apply below_alloc | apply pw_below_drewN | apply below_drew1 | refine below_set ?_ GE739.out) | exact HB.out)) hb); clear HO_11; clear HO_12; clear HO_17; clear HO_19; clear HO_67; clear BK739; clear HB; have HO_11 := n0_; have HO_12 := n1_; have HO_17 := n2_; have HO_19 := n3_; have HO_67 := n4_; have HO766 := n5_; have HO769 := n6_; have BK739 := n7_; have HB := n8_; clear n0_ n1_ n2_ n3_ n4_ n5_ n6_ n7_ n8_; (try clear hb); (try clear hb2); (try clear hk); (try clear hi); (try clear ho0); (try clear ho1); have hcz51_0 : w50.cell? ⟨gb739, 0, none⟩ = some (.slice A0_0 l0_0.length c0_0) := (blk_cell BK739.out 0).trans rfl; have hcz51_1 : w50.cell? ⟨gb739, 1, none⟩ = some (.slice A0_1 l0_1.length c0_1) := (blk_cell BK739.out 1).trans rfl; have hfz51_0 := blk_frozen BK739.out 0; have hfz51_1 := blk_frozen BK739.out 1; obtain ⟨Ao52, co52, eo52⟩ := Kd.R_slice HO_19.out; subst eo52) | ((with_reducible refine gate_callee (f := 22) rfl ?_); refine goesL_ (some 99) rfl rfl Try.func22 (by kernel_rfl) rfl #[.agg #[.slice A0_0 l0_0.length c0_0, .slice A0_1 l0_1.length c0_1], .int .i64 (Int.tmod (wrap64 (a2)) 1073741789), .slice Ao52 x19_1.length co52] rfl (by (try simp only [List.map_toArray, List.map_cons, List.map_nil]); first | done | rfl | (simp only [List.length_drop, List.length_take]; rfl)) ?_; (with_reducible refine (dealing_Deal.calls _ _ l0_0 _ _ l0_1 (Int.tmod (wrap64 (a2)) 1073741789) _ _ x19_1 t771 t774 t777 _ ?side1 ?side2 ?side3 ?side4 ?side5 ?side6 A44.out).mono ?_); (case side1 => repeat (first | exact (Kd.C_below HR0_0.out HB.out) | (with_reducible refine Kd.C_alloc ?_ _) | (with_reducible refine Kd.C_drewN ?_ _) | (with_reducible refine Kd.C_drew ?_))); (case side2 => exact HC0_0.out); (case side3 => repeat (first | exact (Kd.C_below HR0_1.out HB.out) | (with_reducible refine Kd.C_alloc ?_ _) | (with_reducible refine Kd.C_drewN ?_ _) | (with_reducible refine Kd.C_drew ?_))); (case side4 => exact HC0_1.out); (case side5 => repeat (first | exact (Kd.R_reads' HO_19.out).2.2 | (with_reducible refine Kd.C_alloc ?_ _) | (with_reducible refine Kd.C_drewN ?_ _) | (with_reducible refine Kd.C_drew ?_))); (case side6 => exact (Kd.R_reads' HO_19.out).2.1); rintro e w53 ⟨v772, v775, rfl, ho0, ho1, hb⟩; refine ⟨_, rfl, ?_⟩; have n0_ := Aside0.mk (Kd.R_elder' (by (with_reducible repeat (first | apply Kd.R_alloc | apply Kd.R_drewN | apply Kd.R_drew)); exact HO_11.out) (Kd.R_base ho1) hb); have n1_ := Aside0.mk (Kd.R_elder' (by (with_reducible repeat (first | apply Kd.R_alloc | apply Kd.R_drewN | apply Kd.R_drew)); exact HO_12.out) (Kd.R_base ho1) hb); have n2_ := Aside0.mk (Kd.R_elder' (by (with_reducible repeat (first | apply Kd.R_alloc | apply Kd.R_drewN | apply Kd.R_drew)); exact HO_17.out) (Kd.R_base ho1) hb); have n3_ := Aside0.mk (Kd.R_elder' (by (with_reducible repeat (first | apply Kd.R_alloc | apply Kd.R_drewN | apply Kd.R_drew)); exact HO_19.out) (Kd.R_base ho1) hb); have n4_ := Aside0.mk (Kd.R_elder' (by (with_reducible repeat (first | apply Kd.R_alloc | apply Kd.R_drewN | apply Kd.R_drew)); exact HO_67.out) (Kd.R_base ho1) hb); have n5_ := Aside0.mk (Kd.R_elder' (by (with_reducible repeat (first | apply Kd.R_alloc | apply Kd.R_drewN | apply Kd.R_drew)); exact HO766.out) (Kd.R_base ho0) hb); have n6_ := Aside0.mk (Kd.R_elder' (by (with_reducible repeat (first | apply Kd.R_alloc | apply Kd.R_drewN | apply Kd.R_drew)); exact HO769.out) (Kd.R_base ho1) hb); have n7_ := Aside0.mk (Kd.R_lower (Kd.R_new' ho0 (Kd.R_lt (by (with_reducible repeat (first | apply Kd.R_alloc | apply Kd.R_drewN | apply Kd.R_drew)); exact HO766.out))) (below_size (by repeat (first | (with_reducible first | exact HB.out | apply below_alloc | apply pw_below_drewN | apply below_drew1 | refine below_set ?_ GE739.out) | exact HB.out)))); have n8_ := Aside0.mk (Kd.R_lower (Kd.R_new' (Kd.R_new' (Kd.R_new' (Kd.R_new' (Kd.R_new' (Kd.R_new' ho1 (Kd.R_lt (by (with_reducible repeat (first | apply Kd.R_alloc | apply Kd.R_drewN | apply Kd.R_drew)); exact HO_11.out))) (Kd.R_lt (by (with_reducible repeat (first | apply Kd.R_alloc | apply Kd.R_drewN | apply Kd.R_drew)); exact HO_12.out))) (Kd.R_lt (by (with_reducible repeat (first | apply Kd.R_alloc | apply Kd.R_drewN | apply Kd.R_drew)); exact HO_17.out))) (Kd.R_lt (by (with_reducible repeat (first | apply Kd.R_alloc | apply Kd.R_drewN | apply Kd.R_drew)); exact HO_19.out))) (Kd.R_lt (by (with_reducible repeat (first | apply Kd.R_alloc | apply Kd.R_drewN | apply Kd.R_drew)); exact HO_67.out))) (Kd.R_lt (by (with_reducible repeat (first | apply Kd.R_alloc | apply Kd.R_drewN | apply Kd.R_drew)); exact HO769.out))) (below_size (by repeat (first | (with_reducible first | exact HB.out | apply below_alloc | apply pw_below_drewN | apply below_drew1 | refine below_set ?_ GE739.out) | exact HB.out)))); have n9_ := Aside0.mk (blk_below (g := gb739) (o := .cells #[.slice A0_0 l0_0.length c0_0, .slice A0_1 l0_1.length c0_1] 25 (0, 0)) (by (with_reducible repeat (first | refine blk_drewN ?_ _ | refine blk_drew ?_ | refine blk_alloc ?_ _)); exact BK739.out) hb); have n10_ := Aside0.mk (below_step (by repeat (first | (with_reducible first | exact HB.out | apply below_alloc | apply pw_below_drewN | apply below_drew1 | refine below_set ?_ GE739.out) | exact HB.out)) hb); clear HO_11; clear HO_12; clear HO_17; clear HO_19; clear HO_67; clear HO766; clear HO769; clear BK739; clear HB; have HO_11 := n0_; have HO_12 := n1_; have HO_17 := n2_; have HO_19 := n3_; have HO_67 := n4_; have HO766 := n5_; have HO769 := n6_; have HO773 := n7_; have HO776 := n8_; have BK739 := n9_; have HB := n10_; clear n0_ n1_ n2_ n3_ n4_ n5_ n6_ n7_ n8_ n9_ n10_; (try clear hb); (try clear hb2); (try clear hk); (try clear hi); (try clear ho0); (try clear ho1); obtain ⟨Ao54, co54, eo54⟩ := Kd.R_slice HO766.out; subst eo54; have hcz55_0 : w53.cell? ⟨gb739, 0, none⟩ = some (.slice A0_0 l0_0.length c0_0) := (blk_cell BK739.out 0).trans rfl; have hcz55_1 : w53.cell? ⟨gb739, 1, none⟩ = some (.slice A0_1 l0_1.length c0_1) := (blk_cell BK739.out 1).trans rfl; have hfz55_0 := blk_frozen BK739.out 0; have hfz55_1 := blk_frozen BK739.out 1; obtain ⟨Ao56, co56, eo56⟩ := Kd.R_slice HO773.out; subst eo56))
             go_loopg [127] k1 (fun kq v127 w' => ∃ (x127_2 : Int), v127 = .int .i64 x127_2 ∧ Aside0 (signatorylaw34_DealingHides.l1 kq t742 t764 t771 (t764.length : Int) x127_2 l0_0 l0_1 = some r) ∧ Aside0 (kq ≤ k1) ∧ Aside0 (Kd.R (Kd.int .i64) 3 w' w.heap.size (fun _ => True) (.slice Ao23 t742.length co23) t742) ∧ Aside0 (Kd.R k38 38 w' w.heap.size (fun k_ => some k_ ≠ ((.slice Ao56 t771.length co56) : Value).ownBlock) (.slice Ao54 t764.length co54) t764) ∧ Aside0 (Kd.R k38 38 w' w.heap.size (fun k_ => some k_ ≠ ((.slice Ao54 t764.length co54) : Value).ownBlock) (.slice Ao56 t771.length co56) t771) ∧ Aside0 (w'.heap[gb739]? = some (.cells #[(.slice A0_0 l0_0.length c0_0), (.slice A0_1 l0_1.length c0_1)] 25 (0, 0))) ∧ Aside0 (Below w.heap.size w w'))
             case atStart => exact ⟨(0), (by first | rfl | (simp; done) | (simp [*]; done)), H', ⟨Nat.le_refl _⟩, ⟨by (with_reducible repeat (first | apply Kd.R_alloc | apply Kd.R_drewN | apply Kd.R_drew)); exact Kd.R_mono HO_11.out (fun _ hk => trivial)⟩, ⟨by (with_reducible repeat (first | apply Kd.R_alloc | apply Kd.R_drewN | apply Kd.R_drew)); exact Kd.R_mono HO766.out (fun _ hk => hk.2)⟩, ⟨by (with_reducible repeat (first | apply Kd.R_alloc | apply Kd.R_drewN | apply Kd.R_drew)); exact Kd.R_mono HO773.out (fun _ hk => hk.2)⟩, ⟨by (with_reducible repeat (first | refine blk_drewN ?_ _ | refine blk_drew ?_ | refine blk_alloc ?_ _)); exact BK739.out⟩, ⟨by repeat (first | (with_reducible first | exact HB.out | apply below_alloc | apply pw_below_drewN | apply below_drew1 | refine below_set ?_ GE739.out) | exact HB.out)⟩⟩
             case round =>
              clear H'
              try clear c1
              try clear c2
              try clear p2
              try clear c3
              try clear c4
              try clear c6
              try clear p6
              try clear c7
              try clear p7
              try clear q7
              try clear hx7
              try clear c9
              try clear c12
              try clear c12b0
              try clear c12b1
              try clear c13
              try clear c14
              try clear c15
              try clear c15b0
              try clear c15b1
              try clear c20
              try clear c22
              try clear c32
              try clear c32b0
              try clear c33
              try clear c33b0
              try clear c34
              try clear c34b0
              try clear c36
              try clear c36b0
              try clear c37
              try clear c37b0
              try clear c40
              try clear c45
              try clear c45b0
              try clear c45b1
              try clear c46
              try clear c46b0
              try clear c46b1
              try clear c47
              try clear c47b0
              try clear c47b1
              try clear c47b2
              try clear c48
              try clear c48b0
              try clear c48b1
              try clear c48b2
              try clear c49
              try clear hcz19_0
              try clear hcz19_1
              try clear hcz22_0
              try clear hcz22_1
              try clear hcz25_0
              try clear hcz25_1
              try clear hcz49_0
              try clear hcz49_1
              try clear hcz51_0
              try clear hcz51_1
              try clear hcz55_0
              try clear hcz55_1
              try clear hfz19_0
              try clear hfz19_1
              try clear hfz22_0
              try clear hfz22_1
              try clear hfz25_0
              try clear hfz25_1
              try clear hfz49_0
              try clear hfz49_1
              try clear hfz51_0
              try clear hfz51_1
              try clear hfz55_0
              try clear hfz55_1
              try clear hx757_0
              try clear hx758_0
              try clear p2
              try clear p6
              try clear p757
              try clear p758
              try clear q757
              try clear q758
              obtain ⟨x127_2, rfl, HA, HK2, HO_11, HO_22, HO_25, BK739, HB⟩ := hrel
              cases gk with
              | zero => exact absurd HA.out (by simp [signatorylaw34_DealingHides.l1])
              | succ k2 =>
               have H := HA.out
               clear HA
               simp only [signatorylaw34_DealingHides.l1] at H
               by_cases c57 : x127_2 < (t764.length : Int)
               ·rw [if_pos c57] at H
                have c57b0 : decide (x127_2 < (t764.length : Int)) = true := decide_eq_true c57
                clear c57
                by_cases c58 : 0 ≤ x127_2
                ·rw [if_pos c58] at H
                 have c58b0 : decide (0 ≤ x127_2) = true := decide_eq_true c58
                 clear c58
                 by_cases c59 : x127_2 < (t764.length : Int)
                 ·rw [if_pos c59] at H
                  have c59b0 : decide (x127_2 < (t764.length : Int)) = true := decide_eq_true c59
                  clear c59
                  by_cases c60 : ((rd_T38 t764 x127_2).f0) = x127_2
                  ·rw [if_pos c60] at H
                   have c60b0 : (((rd_T38 t764 x127_2).f0) == x127_2) = true := beq_iff_eq.mpr c60
                   have c60b1 : (((rd_T38 t764 x127_2).f0) != x127_2) = false := bne_eq_false_iff_eq.mpr c60
                   clear c60
                   by_cases c61 : x127_2 < (t771.length : Int)
                   ·rw [if_pos c61] at H
                    have c61b0 : decide (x127_2 < (t771.length : Int)) = true := decide_eq_true c61
                    clear c61
                    by_cases c62 : ((rd_T38 t771 x127_2).f0) = x127_2
                    ·rw [if_pos c62] at H
                     have c62b0 : (((rd_T38 t771 x127_2).f0) == x127_2) = true := beq_iff_eq.mpr c62
                     have c62b1 : (((rd_T38 t771 x127_2).f0) != x127_2) = false := bne_eq_false_iff_eq.mpr c62
                     clear c62
                     have H' := Aside0.mk H
                     clear H
                     have p778 : 0 ≤ (x127_2 : Int) := of_decide_eq_true (by first | (with_reducible assumption) | assumption)
                     have q778 : x127_2 < (t764.length : Int) := of_decide_eq_true (by first | (with_reducible assumption) | assumption)
                     obtain ⟨ad778, e778, hx778_0, hx778_1⟩ := at_T38 (Kd.R_reads' HO_22.out).2.2 x127_2 p778 q778
                     cases e778
                     replace p778 := eq_true p778
                     replace q778 := eq_true q778
                     have p779 : 0 ≤ (x127_2 : Int) := of_decide_eq_true (by first | (with_reducible assumption) | assumption)
                     have q779 : x127_2 < (t771.length : Int) := of_decide_eq_true (by first | (with_reducible assumption) | assumption)
                     obtain ⟨ad779, e779, hx779_0, hx779_1⟩ := at_T38 (Kd.R_reads' HO_25.out).2.2 x127_2 p779 q779
                     cases e779
                     replace p779 := eq_true p779
                     replace q779 := eq_true q779
                     go_wp2
                     go_roundg k2
                     case measure => have := HK1.out; have := HK2.out; omega
                     case rel => exact ⟨(wrap64 (x127_2 + 1)), (by first | rfl | (simp; done) | (simp [*]; done)), H', ⟨by have := HK1.out; have := HK2.out; omega⟩, ⟨by (with_reducible repeat (first | apply Kd.R_alloc | apply Kd.R_drewN | apply Kd.R_drew)); exact HO_11.out⟩, ⟨by (with_reducible repeat (first | apply Kd.R_alloc | apply Kd.R_drewN | apply Kd.R_drew)); exact HO_22.out⟩, ⟨by (with_reducible repeat (first | apply Kd.R_alloc | apply Kd.R_drewN | apply Kd.R_drew)); exact HO_25.out⟩, ⟨by (with_reducible repeat (first | refine blk_drewN ?_ _ | refine blk_drew ?_ | refine blk_alloc ?_ _)); exact BK739.out⟩, ⟨by repeat (first | (with_reducible first | exact HB.out | apply below_alloc | apply pw_below_drewN | apply below_drew1 | refine below_set ?_ GE739.out) | exact HB.out)⟩⟩
                    ·rw [if_neg c62] at H
                     exact absurd H (by simp)
                   ·rw [if_neg c61] at H
                    exact absurd H (by simp)
                  ·rw [if_neg c60] at H
                   exact absurd H (by simp)
                 ·rw [if_neg c59] at H
                  exact absurd H (by simp)
                ·rw [if_neg c58] at H
                 exact absurd H (by simp)
               ·rw [if_neg c57] at H
                have c57b0 : decide (x127_2 < (t764.length : Int)) = false := decide_eq_false c57
                clear c57
                replace H := Option.bind_eq_some_iff.mp H
                obtain ⟨t780, A630, H⟩ := H
                replace H : ((signatoryref34_Of.f k2 l0_0 l0_1 t771 t742).bind fun t783 => ((signatoryref34_Same.f k2 t780 t783).bind fun t786 => (some t786))) = some r := H
                have A63 := Aside0.mk A630
                clear A630
                replace H := Option.bind_eq_some_iff.mp H
                obtain ⟨t783, A640, H⟩ := H
                replace H : ((signatoryref34_Same.f k2 t780 t783).bind fun t786 => (some t786)) = some r := H
                have A64 := Aside0.mk A640
                clear A640
                replace H := Option.bind_eq_some_iff.mp H
                obtain ⟨t786, A650, H⟩ := H
                replace H : (some t786) = some r := H
                have A65 := Aside0.mk A650
                clear A650
                obtain rfl := Option.some.inj H
                try go_wp2
                have n0_ := Aside0.mk (Kd.R_drew HO_11.out)
                have n1_ := Aside0.mk (Kd.R_drew HO_22.out)
                have n2_ := Aside0.mk (Kd.R_drew HO_25.out)
                have n3_ := Aside0.mk (blk_drew BK739.out)
                have n4_ := Aside0.mk (below_drew1 HB.out)
                clear HO_11
                clear HO_22
                clear HO_25
                clear BK739
                clear HB
                have HO_11 := n0_
                have HO_22 := n1_
                have HO_25 := n2_
                have BK739 := n3_
                have HB := n4_
                clear n0_ n1_ n2_ n3_ n4_
                refine start_ (n := 10) (S := fun w' => w'.cell? ⟨gb739, 0, none⟩ = some (.slice A0_0 l0_0.length c0_0) ∧ w'.cell? ⟨gb739, 1, none⟩ = some (.slice A0_1 l0_1.length c0_1)) (ds := []) #[false, false, false, false, false, false, false, false, false, false] (by kernel_rfl) rfl rfl ⟨(blk_cell BK739.out 0).trans rfl, (blk_cell BK739.out 1).trans rfl⟩ (fun hHeld => ?_); refine with_tabW signatorylaw34_DealingHides.tab31 signatorylaw34_DealingHides.bits31 (fun HT_ HW_ => ?_)
                generalize wr.drew = w66 at HO_11 HO_22 HO_25 BK739 HB hHeld ⊢
                refine pure_ (i := 1) (N := some 148) (v := ?_) (a' := ?_) #[false, true, false, false, false, false, false, false, false, false] rfl rfl (any_of HT_.out (by kernel_rfl)) (fun _ _ _ h => h) (Or.inl ⟨by rfl, ?_⟩) ?_ ?_
                rotate_left
                ·intro w'
                 go_simp
                 with_reducible rfl
                rotate_left
                ·simp only [Act.put, List.setIfInBounds_toArray, List.set_cons_zero, List.set_cons_succ, i64_w, i32_w]
                 rfl
                refine pure_ (i := 2) (N := some 149) (v := ?_) (a' := ?_) #[false, true, true, false, false, false, false, false, false, false] rfl rfl (any_of HT_.out (by kernel_rfl)) (fun _ _ _ h => h) (Or.inl ⟨by rfl, ?_⟩) ?_ ?_
                rotate_left
                ·intro w'
                 go_simp
                 with_reducible rfl
                rotate_left
                ·simp only [Act.put, List.setIfInBounds_toArray, List.set_cons_zero, List.set_cons_succ, i64_w, i32_w]
                 rfl
                refine pure_ (i := 5) (N := some 152) (v := ?_) (a' := ?_) #[false, true, true, false, false, true, false, false, false, false] rfl rfl (any_of HT_.out (by kernel_rfl)) (fun _ _ _ h => h) (Or.inl ⟨by rfl, ?_⟩) ?_ ?_
                rotate_left
                ·intro w'
                 go_simp
                 with_reducible rfl
                rotate_left
                ·simp only [Act.put, List.setIfInBounds_toArray, List.set_cons_zero, List.set_cons_succ, i64_w, i32_w]
                 rfl
                refine pure_ (i := 6) (N := some 153) (v := ?_) (a' := ?_) #[false, true, true, false, false, true, true, false, false, false] rfl rfl (any_of HT_.out (by kernel_rfl)) (fun _ _ _ h => h) (Or.inl ⟨by rfl, ?_⟩) ?_ ?_
                rotate_left
                ·intro w'
                 go_simp
                 with_reducible rfl
                rotate_left
                ·simp only [Act.put, List.setIfInBounds_toArray, List.set_cons_zero, List.set_cons_succ, i64_w, i32_w]
                 rfl
                refine take_ (i := 0) (N := some 147) (v := ?_) (a' := ?_) #[true, true, true, false, false, true, true, false, false, false] rfl rfl (take_ofW HT_.out HW_.out (by kernel_rfl)) (fun _ _ _ h => h) (Or.inl ⟨by rfl, ?_⟩) hHeld ?_ ?_
                rotate_left
                ·rintro w' ⟨s0, s1⟩
                 go_simp
                 with_reducible rfl
                rotate_left
                ·simp only [Act.put, List.setIfInBounds_toArray, List.set_cons_zero, List.set_cons_succ, i64_w, i32_w]
                 rfl
                refine take_ (i := 4) (N := some 151) (v := ?_) (a' := ?_) #[true, true, true, false, true, true, true, false, false, false] rfl rfl (take_ofW HT_.out HW_.out (by kernel_rfl)) (fun _ _ _ h => h) (Or.inl ⟨by rfl, ?_⟩) hHeld ?_ ?_
                rotate_left
                ·rintro w' ⟨s0, s1⟩
                 go_simp
                 with_reducible rfl
                rotate_left
                ·simp only [Act.put, List.setIfInBounds_toArray, List.set_cons_zero, List.set_cons_succ, i64_w, i32_w]
                 rfl
                refine one_ (i := 3) (N := some 150) #[true, true, true, true, true, true, true, false, false, false] rfl rfl (one_of HT_.out (by kernel_rfl)) (by decide) (fun K hK => ?_)
                refine goes_ Try.func53 (by kernel_rfl) rfl #[.agg #[.slice A0_0 l0_0.length c0_0, .slice A0_1 l0_1.length c0_1], .slice Ao54 t764.length co54, .slice Ao23 t742.length co23] (by rfl) rfl rfl (by (try simp only [List.map_toArray, List.map_cons, List.map_nil]); first | done | rfl | (simp only [List.length_drop, List.length_take]; rfl)) ?_
                with_reducible refine (signatoryref34_Of.calls k2 _ _ l0_0 _ _ l0_1 _ _ t764 _ _ t742 t780 _ ?side1 ?side2 ?side3 ?side4 ?side5 ?side6 ?side7 ?side8 A63.out).mono ?_
                (case side1 => repeat (first | exact (Kd.C_below HR0_0.out HB.out) | (with_reducible refine Kd.C_alloc ?_ _) | (with_reducible refine Kd.C_drewN ?_ _) | (with_reducible refine Kd.C_drew ?_)))
                (case side2 => exact HC0_0.out)
                (case side3 => repeat (first | exact (Kd.C_below HR0_1.out HB.out) | (with_reducible refine Kd.C_alloc ?_ _) | (with_reducible refine Kd.C_drewN ?_ _) | (with_reducible refine Kd.C_drew ?_)))
                (case side4 => exact HC0_1.out)
                (case side5 => repeat (first | exact (Kd.R_reads' HO_22.out).2.2 | (with_reducible refine Kd.C_alloc ?_ _) | (with_reducible refine Kd.C_drewN ?_ _) | (with_reducible refine Kd.C_drew ?_)))
                (case side6 => exact (Kd.R_reads' HO_22.out).2.1)
                (case side7 => repeat (first | exact (Kd.R_reads' HO_11.out).2.2 | (with_reducible refine Kd.C_alloc ?_ _) | (with_reducible refine Kd.C_drewN ?_ _) | (with_reducible refine Kd.C_drew ?_)))
                (case side8 => exact (Kd.R_reads' HO_11.out).2.1)
                rintro e w67 ⟨v781, rfl, ho0, hb⟩
                refine ⟨_, rfl, ?_⟩
                have n0_ := Aside0.mk (Kd.R_below (by (with_reducible repeat (first | apply Kd.R_alloc | apply Kd.R_drewN | apply Kd.R_drew)); exact HO_11.out) hb)
                have n1_ := Aside0.mk (Kd.R_elder' (by (with_reducible repeat (first | apply Kd.R_alloc | apply Kd.R_drewN | apply Kd.R_drew)); exact HO_22.out) (Kd.R_base ho0) hb)
                have n2_ := Aside0.mk (Kd.R_elder' (by (with_reducible repeat (first | apply Kd.R_alloc | apply Kd.R_drewN | apply Kd.R_drew)); exact HO_25.out) (Kd.R_base ho0) hb)
                have n3_ := Aside0.mk (Kd.R_lower (Kd.R_new' (Kd.R_new' ho0 (Kd.R_lt (by (with_reducible repeat (first | apply Kd.R_alloc | apply Kd.R_drewN | apply Kd.R_drew)); exact HO_22.out))) (Kd.R_lt (by (with_reducible repeat (first | apply Kd.R_alloc | apply Kd.R_drewN | apply Kd.R_drew)); exact HO_25.out))) (below_size (by repeat (first | (with_reducible first | exact HB.out | apply below_alloc | apply pw_below_drewN | apply below_drew1 | refine below_set ?_ GE739.out) | exact HB.out))))
                have n4_ := Aside0.mk (blk_below (g := gb739) (o := .cells #[.slice A0_0 l0_0.length c0_0, .slice A0_1 l0_1.length c0_1] 25 (0, 0)) (by (with_reducible repeat (first | refine blk_drewN ?_ _ | refine blk_drew ?_ | refine blk_alloc ?_ _)); exact BK739.out) hb)
                have n5_ := Aside0.mk (below_step (by repeat (first | (with_reducible first | exact HB.out | apply below_alloc | apply pw_below_drewN | apply below_drew1 | refine below_set ?_ GE739.out) | exact HB.out)) hb)
                clear HO_11
                clear HO_22
                clear HO_25
                clear BK739
                clear HB
                have HO_11 := n0_
                have HO_22 := n1_
                have HO_25 := n2_
                have HO782 := n3_
                have BK739 := n4_
                have HB := n5_
                clear n0_ n1_ n2_ n3_ n4_ n5_
                (try clear hb)
                (try clear hb2)
                (try clear hk)
                (try clear hi)
                (try clear ho0)
                refine hK.out _ _ ⟨(blk_cell BK739.out 0).trans rfl, (blk_cell BK739.out 1).trans rfl⟩ (fun hHeld => ?_)
                clear hK K
                refine norm_ (a' := ?_) ?_ ?_
                rotate_left
                ·show Act.put _ (some 150) _ = _
                 simp only [Act.put, List.setIfInBounds_toArray, List.set_cons_zero, List.set_cons_succ, i64_w, i32_w]
                 rfl
                refine one_ (i := 7) (N := some 154) #[true, true, true, true, true, true, true, true, false, false] rfl rfl (one_of HT_.out (by kernel_rfl)) (by decide) (fun K hK => ?_)
                refine goes_ Try.func53 (by kernel_rfl) rfl #[.agg #[.slice A0_0 l0_0.length c0_0, .slice A0_1 l0_1.length c0_1], .slice Ao56 t771.length co56, .slice Ao23 t742.length co23] (by rfl) rfl rfl (by (try simp only [List.map_toArray, List.map_cons, List.map_nil]); first | done | rfl | (simp only [List.length_drop, List.length_take]; rfl)) ?_
                with_reducible refine (signatoryref34_Of.calls k2 _ _ l0_0 _ _ l0_1 _ _ t771 _ _ t742 t783 _ ?side1 ?side2 ?side3 ?side4 ?side5 ?side6 ?side7 ?side8 A64.out).mono ?_
                (case side1 => repeat (first | exact (Kd.C_below HR0_0.out HB.out) | (with_reducible refine Kd.C_alloc ?_ _) | (with_reducible refine Kd.C_drewN ?_ _) | (with_reducible refine Kd.C_drew ?_)))
                (case side2 => exact HC0_0.out)
                (case side3 => repeat (first | exact (Kd.C_below HR0_1.out HB.out) | (with_reducible refine Kd.C_alloc ?_ _) | (with_reducible refine Kd.C_drewN ?_ _) | (with_reducible refine Kd.C_drew ?_)))
                (case side4 => exact HC0_1.out)
                (case side5 => repeat (first | exact (Kd.R_reads' HO_25.out).2.2 | (with_reducible refine Kd.C_alloc ?_ _) | (with_reducible refine Kd.C_drewN ?_ _) | (with_reducible refine Kd.C_drew ?_)))
                (case side6 => exact (Kd.R_reads' HO_25.out).2.1)
                (case side7 => repeat (first | exact (Kd.R_reads' HO_11.out).2.2 | (with_reducible refine Kd.C_alloc ?_ _) | (with_reducible refine Kd.C_drewN ?_ _) | (with_reducible refine Kd.C_drew ?_)))
                (case side8 => exact (Kd.R_reads' HO_11.out).2.1)
                rintro e w68 ⟨v784, rfl, ho0, hb⟩
                refine ⟨_, rfl, ?_⟩
                have n0_ := Aside0.mk (Kd.R_below (by (with_reducible repeat (first | apply Kd.R_alloc | apply Kd.R_drewN | apply Kd.R_drew)); exact HO_11.out) hb)
                have n1_ := Aside0.mk (Kd.R_elder' (by (with_reducible repeat (first | apply Kd.R_alloc | apply Kd.R_drewN | apply Kd.R_drew)); exact HO_22.out) (Kd.R_base ho0) hb)
                have n2_ := Aside0.mk (Kd.R_elder' (by (with_reducible repeat (first | apply Kd.R_alloc | apply Kd.R_drewN | apply Kd.R_drew)); exact HO_25.out) (Kd.R_base ho0) hb)
                have n3_ := Aside0.mk (Kd.R_elder' (by (with_reducible repeat (first | apply Kd.R_alloc | apply Kd.R_drewN | apply Kd.R_drew)); exact HO782.out) (Kd.R_base ho0) hb)
                have n4_ := Aside0.mk (Kd.R_lower (Kd.R_new' (Kd.R_new' (Kd.R_new' ho0 (Kd.R_lt (by (with_reducible repeat (first | apply Kd.R_alloc | apply Kd.R_drewN | apply Kd.R_drew)); exact HO_22.out))) (Kd.R_lt (by (with_reducible repeat (first | apply Kd.R_alloc | apply Kd.R_drewN | apply Kd.R_drew)); exact HO_25.out))) (Kd.R_lt (by (with_reducible repeat (first | apply Kd.R_alloc | apply Kd.R_drewN | apply Kd.R_drew)); exact HO782.out))) (below_size (by repeat (first | (with_reducible first | exact HB.out | apply below_alloc | apply pw_below_drewN | apply below_drew1 | refine below_set ?_ GE739.out) | exact HB.out))))
                have n5_ := Aside0.mk (blk_below (g := gb739) (o := .cells #[.slice A0_0 l0_0.length c0_0, .slice A0_1 l0_1.length c0_1] 25 (0, 0)) (by (with_reducible repeat (first | refine blk_drewN ?_ _ | refine blk_drew ?_ | refine blk_alloc ?_ _)); exact BK739.out) hb)
                have n6_ := Aside0.mk (below_step (by repeat (first | (with_reducible first | exact HB.out | apply below_alloc | apply pw_below_drewN | apply below_drew1 | refine below_set ?_ GE739.out) | exact HB.out)) hb)
                clear HO_11
                clear HO_22
                clear HO_25
                clear HO782
                clear BK739
                clear HB
                have HO_11 := n0_
                have HO_22 := n1_
                have HO_25 := n2_
                have HO782 := n3_
                have HO785 := n4_
                have BK739 := n5_
                have HB := n6_
                clear n0_ n1_ n2_ n3_ n4_ n5_ n6_
                (try clear hb)
                (try clear hb2)
                (try clear hk)
                (try clear hi)
                (try clear ho0)
                obtain ⟨Ao69, co69, eo69⟩ := Kd.R_slice HO782.out
                (first | subst eo69 | (injection eo69 with f1_ f2_ f3_; have f4_ := f1_.symm; have f5_ := f3_.symm; clear f1_ f2_ f3_; subst f4_; subst f5_))
                obtain ⟨Ao70, co70, eo70⟩ := Kd.R_slice HO785.out
                (first | subst eo70 | (injection eo70 with f1_ f2_ f3_; have f4_ := f1_.symm; have f5_ := f3_.symm; clear f1_ f2_ f3_; subst f4_; subst f5_))
                refine hK.out _ _ ⟨(blk_cell BK739.out 0).trans rfl, (blk_cell BK739.out 1).trans rfl⟩ (fun hHeld => ?_)
                clear hK K
                refine norm_ (a' := ?_) ?_ ?_
                rotate_left
                ·show Act.put _ (some 154) _ = _
                 simp only [Act.put, List.setIfInBounds_toArray, List.set_cons_zero, List.set_cons_succ, i64_w, i32_w]
                 rfl
                refine one_ (i := 8) (N := some 155) #[true, true, true, true, true, true, true, true, true, false] rfl rfl (one_of HT_.out (by kernel_rfl)) (by decide) (fun K hK => ?_)
                refine goes_ Try.func26 (by kernel_rfl) rfl #[.slice Ao69 t780.length co69, .slice Ao70 t783.length co70] (by rfl) rfl rfl (by (try simp only [List.map_toArray, List.map_cons, List.map_nil]); first | done | rfl | (simp only [List.length_drop, List.length_take]; rfl)) ?_
                with_reducible refine (signatoryref34_Same.calls k2 _ _ t780 _ _ t783 t786 _ ?side1 ?side2 ?side3 ?side4 A65.out).mono ?_
                (case side1 => repeat (first | exact (Kd.R_reads' HO782.out).2.2 | (with_reducible refine Kd.C_alloc ?_ _) | (with_reducible refine Kd.C_drewN ?_ _) | (with_reducible refine Kd.C_drew ?_)))
                (case side2 => exact (Kd.R_reads' HO782.out).2.1)
                (case side3 => repeat (first | exact (Kd.R_reads' HO785.out).2.2 | (with_reducible refine Kd.C_alloc ?_ _) | (with_reducible refine Kd.C_drewN ?_ _) | (with_reducible refine Kd.C_drew ?_)))
                (case side4 => exact (Kd.R_reads' HO785.out).2.1)
                rintro e w' ⟨rfl, ⟨nd, rfl⟩⟩
                refine ⟨_, rfl, ?_⟩
                refine hK.out _ _ ⟨(blk_cell BK739.out 0).trans rfl, (blk_cell BK739.out 1).trans rfl⟩ (fun hHeld => ?_)
                clear hK K
                refine norm_ (a' := ?_) ?_ ?_
                rotate_left
                ·show Act.put _ (some 155) _ = _
                 simp only [Act.put, List.setIfInBounds_toArray, List.set_cons_zero, List.set_cons_succ, i64_w, i32_w]
                 rfl
                refine pure_ (i := 9) (N := some 10) (v := ?_) (a' := ?_) #[true, true, true, true, true, true, true, true, true, true] rfl rfl (any_of HT_.out (by kernel_rfl)) (fun _ _ _ h => h) (Or.inl ⟨by rfl, ?_⟩) ?_ ?_
                rotate_left
                ·intro w'
                 go_simp
                 with_reducible rfl
                rotate_left
                ·simp only [Act.put, List.setIfInBounds_toArray, List.set_cons_zero, List.set_cons_succ, i64_w, i32_w]
                 rfl
                refine done_ (done_of HT_.out (by kernel_rfl)) ?_
                try go_wp2
                go_ret
                exact ⟨by first | rfl | (simp [errW_none, errW_some] <;> rfl) | (simp [*, errW_none, errW_some] <;> rfl), by repeat (first | (with_reducible first | exact HB.out | apply below_alloc | apply pw_below_drewN | apply below_drew1 | refine below_set ?_ GE739.out) | exact HB.out)⟩
            ·rw [if_neg c48] at H
             exact absurd H (by simp)
           ·rw [if_neg c47] at H
            exact absurd H (by simp)
          ·rw [if_neg c46] at H
           exact absurd H (by simp)
         ·rw [if_neg c45] at H
          exact absurd H (by simp)
     ·rw [if_neg c15] at H
      exact absurd H (by simp)
    ·replace c13 := Bool.eq_false_iff.mpr c13
     subst c13
     have H1 : (some true) = some r := by rw [if_neg (show ¬ (false = true) by decide)] at H; exact H
     clear H
     have H := H1
     clear H1
     obtain rfl := Option.some.inj H
     go_enter Try.func14, Try.ntmps14
     go_wp2_with (first | ((with_reducible refine gate_dst (N := 5) rfl ?_); (try (refine gate_guard (by rfl) ?_; dsimp only)); refine box_event ?hg (N := 5) ?hd (cs := #[.slice A0_0 l0_0.length c0_0, .slice A0_1 l0_1.length c0_1]) (t := 25) ?hr ?_; (case hd => rfl); (case hg => rfl); (case hr => first | (go_simp; done) | (go_simp; rfl)); intro gb739 hg w71 hbox hb; have n0_ := Aside0.mk (below_step (by repeat (first | (with_reducible first | exact HB.out | apply below_alloc | apply pw_below_drewN | apply below_drew1) | exact HB.out)) hb); have n1_ := Aside0.mk (hbox); have n2_ := Aside0.mk ((by rw [hg]; exact (below_size (by repeat (first | (with_reducible first | exact HB.out | apply below_alloc | apply pw_below_drewN | apply below_drew1) | exact HB.out))) : w.heap.size ≤ gb739)); have n3_ := Aside0.mk ((by rw [hg]; exact (below_size (by repeat (first | (with_reducible first | exact HB.out | apply below_alloc | apply pw_below_drewN | apply below_drew1) | exact HB.out))) : w.heap.size ≤ gb739)); clear HB; have HB := n0_; have BK739 := n1_; have GW739 := n2_; have GE739 := n3_; clear n0_ n1_ n2_ n3_; clear hb hbox hg) | ((with_reducible refine gate_callee (f := 20) rfl ?_); refine goesL_ (some 29) rfl rfl Try.func20 (by kernel_rfl) rfl #[] rfl (by (try simp only [List.map_toArray, List.map_cons, List.map_nil]); first | done | rfl | (simp only [List.length_drop, List.length_take]; rfl)) ?_; (with_reducible refine (signatorylaw34_sane.calls  true _ A6.out).mono ?_); rintro e w72 ⟨rfl, hb⟩; refine ⟨_, rfl, ?_⟩; have n0_ := Aside0.mk (blk_below (g := gb739) (o := .cells #[.slice A0_0 l0_0.length c0_0, .slice A0_1 l0_1.length c0_1] 25 (0, 0)) (by (with_reducible repeat (first | refine blk_drewN ?_ _ | refine blk_drew ?_ | refine blk_alloc ?_ _)); exact BK739.out) hb); have n1_ := Aside0.mk (below_step (by repeat (first | (with_reducible first | exact HB.out | apply below_alloc | apply pw_below_drewN | apply below_drew1 | refine below_set ?_ GE739.out) | exact HB.out)) hb); clear BK739; clear HB; have BK739 := n0_; have HB := n1_; clear n0_ n1_; (try clear hb); (try clear hb2); (try clear hk); (try clear hi); have hcz73_0 : w72.cell? ⟨gb739, 0, none⟩ = some (.slice A0_0 l0_0.length c0_0) := (blk_cell BK739.out 0).trans rfl; have hcz73_1 : w72.cell? ⟨gb739, 1, none⟩ = some (.slice A0_1 l0_1.length c0_1) := (blk_cell BK739.out 1).trans rfl; have hfz73_0 := blk_frozen BK739.out 0; have hfz73_1 := blk_frozen BK739.out 1) | ((with_reducible refine gate_callee (f := 32) rfl ?_); refine goesL_ (some 32) rfl rfl Try.func32 (by kernel_rfl) rfl #[.agg #[.slice A0_0 l0_0.length c0_0, .slice A0_1 l0_1.length c0_1]] rfl (by (try simp only [List.map_toArray, List.map_cons, List.map_nil]); first | done | rfl | (simp only [List.length_drop, List.length_take]; rfl)) ?_; (with_reducible refine (signatoryref34_Small.calls k _ _ l0_0 _ _ l0_1 true _ ?side1 ?side2 ?side3 ?side4 A8.out).mono ?_); (case side1 => repeat (first | exact (Kd.C_below HR0_0.out HB.out) | (with_reducible refine Kd.C_alloc ?_ _) | (with_reducible refine Kd.C_drewN ?_ _) | (with_reducible refine Kd.C_drew ?_))); (case side2 => exact HC0_0.out); (case side3 => repeat (first | exact (Kd.C_below HR0_1.out HB.out) | (with_reducible refine Kd.C_alloc ?_ _) | (with_reducible refine Kd.C_drewN ?_ _) | (with_reducible refine Kd.C_drew ?_))); (case side4 => exact HC0_1.out); rintro e w74 ⟨rfl, hb⟩; refine ⟨_, rfl, ?_⟩; have n0_ := Aside0.mk (blk_below (g := gb739) (o := .cells #[.slice A0_0 l0_0.length c0_0, .slice A0_1 l0_1.length c0_1] 25 (0, 0)) (by (with_reducible repeat (first | refine blk_drewN ?_ _ | refine blk_drew ?_ | refine blk_alloc ?_ _)); exact BK739.out) hb); have n1_ := Aside0.mk (below_step (by repeat (first | (with_reducible first | exact HB.out | apply below_alloc | apply pw_below_drewN | apply below_drew1 | refine below_set ?_ GE739.out) | exact HB.out)) hb); clear BK739; clear HB; have BK739 := n0_; have HB := n1_; clear n0_ n1_; (try clear hb); (try clear hb2); (try clear hk); (try clear hi)) | ((with_reducible refine gate_callee (f := 61) rfl ?_); refine goesL_ (some 35) rfl rfl Try.func61 (by kernel_rfl) rfl #[.int .u64 a4] rfl (by (try simp only [List.map_toArray, List.map_cons, List.map_nil]); first | done | rfl | (simp only [List.length_drop, List.length_take]; rfl)) ?_; (with_reducible refine (signatorylaw34_people.calls k a4 t742 _ A10.out).mono ?_); rintro e w75 ⟨v743, rfl, ho0, hb⟩; refine ⟨_, rfl, ?_⟩; have n0_ := Aside0.mk (Kd.R_lower ho0 (below_size (by repeat (first | (with_reducible first | exact HB.out | apply below_alloc | apply pw_below_drewN | apply below_drew1 | refine below_set ?_ GE739.out) | exact HB.out)))); have n1_ := Aside0.mk (blk_below (g := gb739) (o := .cells #[.slice A0_0 l0_0.length c0_0, .slice A0_1 l0_1.length c0_1] 25 (0, 0)) (by (with_reducible repeat (first | refine blk_drewN ?_ _ | refine blk_drew ?_ | refine blk_alloc ?_ _)); exact BK739.out) hb); have n2_ := Aside0.mk (below_step (by repeat (first | (with_reducible first | exact HB.out | apply below_alloc | apply pw_below_drewN | apply below_drew1 | refine below_set ?_ GE739.out) | exact HB.out)) hb); clear BK739; clear HB; have HO744 := n0_; have BK739 := n1_; have HB := n2_; clear n0_ n1_ n2_; (try clear hb); (try clear hb2); (try clear hk); (try clear hi); (try clear ho0); have hcz76_0 : w75.cell? ⟨gb739, 0, none⟩ = some (.slice A0_0 l0_0.length c0_0) := (blk_cell BK739.out 0).trans rfl; have hcz76_1 : w75.cell? ⟨gb739, 1, none⟩ = some (.slice A0_1 l0_1.length c0_1) := (blk_cell BK739.out 1).trans rfl; have hfz76_0 := blk_frozen BK739.out 0; have hfz76_1 := blk_frozen BK739.out 1; obtain ⟨Ao77, co77, eo77⟩ := Kd.R_slice HO744.out; subst eo77) | ((with_reducible refine gate_callee (f := 49) rfl ?_); refine goesL_ (some 39) rfl rfl Try.func49 (by kernel_rfl) rfl #[.agg #[.slice A0_0 l0_0.length c0_0, .slice A0_1 l0_1.length c0_1], .slice Ao77 t742.length co77] rfl (by (try simp only [List.map_toArray, List.map_cons, List.map_nil]); first | done | rfl | (simp only [List.length_drop, List.length_take]; rfl)) ?_; (with_reducible refine (program_Refuses.calls _ _ l0_0 _ _ l0_1 _ _ t742 t745 false t749 _ ?side1 ?side2 ?side3 ?side4 ?side5 ?side6 A11.out).mono ?_); (case side1 => repeat (first | exact (Kd.C_below HR0_0.out HB.out) | (with_reducible refine Kd.C_alloc ?_ _) | (with_reducible refine Kd.C_drewN ?_ _) | (with_reducible refine Kd.C_drew ?_))); (case side2 => exact HC0_0.out); (case side3 => repeat (first | exact (Kd.C_below HR0_1.out HB.out) | (with_reducible refine Kd.C_alloc ?_ _) | (with_reducible refine Kd.C_drewN ?_ _) | (with_reducible refine Kd.C_drew ?_))); (case side4 => exact HC0_1.out); (case side5 => repeat (first | exact (Kd.R_reads' HO744.out).2.2 | (with_reducible refine Kd.C_alloc ?_ _) | (with_reducible refine Kd.C_drewN ?_ _) | (with_reducible refine Kd.C_drew ?_))); (case side6 => exact (Kd.R_reads' HO744.out).2.1); rintro e w78 ⟨v746, rfl, ho0, hb⟩; refine ⟨_, rfl, ?_⟩; have n0_ := Aside0.mk (Kd.R_elder' (by (with_reducible repeat (first | apply Kd.R_alloc | apply Kd.R_drewN | apply Kd.R_drew)); exact HO744.out) (Kd.R_base ho0) hb); have n1_ := Aside0.mk (Kd.R_lower (Kd.R_new' ho0 (Kd.R_lt (by (with_reducible repeat (first | apply Kd.R_alloc | apply Kd.R_drewN | apply Kd.R_drew)); exact HO744.out))) (below_size (by repeat (first | (with_reducible first | exact HB.out | apply below_alloc | apply pw_below_drewN | apply below_drew1 | refine below_set ?_ GE739.out) | exact HB.out)))); have n2_ := Aside0.mk (blk_below (g := gb739) (o := .cells #[.slice A0_0 l0_0.length c0_0, .slice A0_1 l0_1.length c0_1] 25 (0, 0)) (by (with_reducible repeat (first | refine blk_drewN ?_ _ | refine blk_drew ?_ | refine blk_alloc ?_ _)); exact BK739.out) hb); have n3_ := Aside0.mk (below_step (by repeat (first | (with_reducible first | exact HB.out | apply below_alloc | apply pw_below_drewN | apply below_drew1 | refine below_set ?_ GE739.out) | exact HB.out)) hb); clear HO744; clear BK739; clear HB; have HO744 := n0_; have HO747 := n1_; have BK739 := n2_; have HB := n3_; clear n0_ n1_ n2_ n3_; (try clear hb); (try clear hb2); (try clear hk); (try clear hi); (try clear ho0)))
     go_ret
     exact ⟨by first | rfl | (simp [errW_none, errW_some] <;> rfl) | (simp [*, errW_none, errW_some] <;> rfl), by repeat (first | (with_reducible first | exact HB.out | apply below_alloc | apply pw_below_drewN | apply below_drew1 | refine below_set ?_ GE739.out) | exact HB.out)⟩
   ·rw [if_neg c12] at H
    exact absurd H (by simp)
  ·replace c9 := Bool.eq_false_iff.mpr c9
   subst c9
   have H1 : (some true) = some r := by rw [if_neg (show ¬ (false = true) by decide)] at H; exact H
   clear H
   have H := H1
   clear H1
   obtain rfl := Option.some.inj H
   go_enter Try.func14, Try.ntmps14
   go_wp2_with (first | ((with_reducible refine gate_dst (N := 5) rfl ?_); (try (refine gate_guard (by rfl) ?_; dsimp only)); refine box_event ?hg (N := 5) ?hd (cs := #[.slice A0_0 l0_0.length c0_0, .slice A0_1 l0_1.length c0_1]) (t := 25) ?hr ?_; (case hd => rfl); (case hg => rfl); (case hr => first | (go_simp; done) | (go_simp; rfl)); intro gb739 hg w79 hbox hb; have n0_ := Aside0.mk (below_step (by repeat (first | (with_reducible first | exact HB.out | apply below_alloc | apply pw_below_drewN | apply below_drew1) | exact HB.out)) hb); have n1_ := Aside0.mk (hbox); have n2_ := Aside0.mk ((by rw [hg]; exact (below_size (by repeat (first | (with_reducible first | exact HB.out | apply below_alloc | apply pw_below_drewN | apply below_drew1) | exact HB.out))) : w.heap.size ≤ gb739)); have n3_ := Aside0.mk ((by rw [hg]; exact (below_size (by repeat (first | (with_reducible first | exact HB.out | apply below_alloc | apply pw_below_drewN | apply below_drew1) | exact HB.out))) : w.heap.size ≤ gb739)); clear HB; have HB := n0_; have BK739 := n1_; have GW739 := n2_; have GE739 := n3_; clear n0_ n1_ n2_ n3_; clear hb hbox hg) | ((with_reducible refine gate_callee (f := 20) rfl ?_); refine goesL_ (some 29) rfl rfl Try.func20 (by kernel_rfl) rfl #[] rfl (by (try simp only [List.map_toArray, List.map_cons, List.map_nil]); first | done | rfl | (simp only [List.length_drop, List.length_take]; rfl)) ?_; (with_reducible refine (signatorylaw34_sane.calls  true _ A6.out).mono ?_); rintro e w80 ⟨rfl, hb⟩; refine ⟨_, rfl, ?_⟩; have n0_ := Aside0.mk (blk_below (g := gb739) (o := .cells #[.slice A0_0 l0_0.length c0_0, .slice A0_1 l0_1.length c0_1] 25 (0, 0)) (by (with_reducible repeat (first | refine blk_drewN ?_ _ | refine blk_drew ?_ | refine blk_alloc ?_ _)); exact BK739.out) hb); have n1_ := Aside0.mk (below_step (by repeat (first | (with_reducible first | exact HB.out | apply below_alloc | apply pw_below_drewN | apply below_drew1 | refine below_set ?_ GE739.out) | exact HB.out)) hb); clear BK739; clear HB; have BK739 := n0_; have HB := n1_; clear n0_ n1_; (try clear hb); (try clear hb2); (try clear hk); (try clear hi); have hcz81_0 : w80.cell? ⟨gb739, 0, none⟩ = some (.slice A0_0 l0_0.length c0_0) := (blk_cell BK739.out 0).trans rfl; have hcz81_1 : w80.cell? ⟨gb739, 1, none⟩ = some (.slice A0_1 l0_1.length c0_1) := (blk_cell BK739.out 1).trans rfl; have hfz81_0 := blk_frozen BK739.out 0; have hfz81_1 := blk_frozen BK739.out 1) | ((with_reducible refine gate_callee (f := 32) rfl ?_); refine goesL_ (some 32) rfl rfl Try.func32 (by kernel_rfl) rfl #[.agg #[.slice A0_0 l0_0.length c0_0, .slice A0_1 l0_1.length c0_1]] rfl (by (try simp only [List.map_toArray, List.map_cons, List.map_nil]); first | done | rfl | (simp only [List.length_drop, List.length_take]; rfl)) ?_; (with_reducible refine (signatoryref34_Small.calls k _ _ l0_0 _ _ l0_1 false _ ?side1 ?side2 ?side3 ?side4 A8.out).mono ?_); (case side1 => repeat (first | exact (Kd.C_below HR0_0.out HB.out) | (with_reducible refine Kd.C_alloc ?_ _) | (with_reducible refine Kd.C_drewN ?_ _) | (with_reducible refine Kd.C_drew ?_))); (case side2 => exact HC0_0.out); (case side3 => repeat (first | exact (Kd.C_below HR0_1.out HB.out) | (with_reducible refine Kd.C_alloc ?_ _) | (with_reducible refine Kd.C_drewN ?_ _) | (with_reducible refine Kd.C_drew ?_))); (case side4 => exact HC0_1.out); rintro e w82 ⟨rfl, hb⟩; refine ⟨_, rfl, ?_⟩; have n0_ := Aside0.mk (blk_below (g := gb739) (o := .cells #[.slice A0_0 l0_0.length c0_0, .slice A0_1 l0_1.length c0_1] 25 (0, 0)) (by (with_reducible repeat (first | refine blk_drewN ?_ _ | refine blk_drew ?_ | refine blk_alloc ?_ _)); exact BK739.out) hb); have n1_ := Aside0.mk (below_step (by repeat (first | (with_reducible first | exact HB.out | apply below_alloc | apply pw_below_drewN | apply below_drew1 | refine below_set ?_ GE739.out) | exact HB.out)) hb); clear BK739; clear HB; have BK739 := n0_; have HB := n1_; clear n0_ n1_; (try clear hb); (try clear hb2); (try clear hk); (try clear hi)))
   go_ret
   exact ⟨by first | rfl | (simp [errW_none, errW_some] <;> rfl) | (simp [*, errW_none, errW_some] <;> rfl), by repeat (first | (with_reducible first | exact HB.out | apply below_alloc | apply pw_below_drewN | apply below_drew1 | refine below_set ?_ GE739.out) | exact HB.out)⟩
 ·replace c7 := Bool.eq_false_iff.mpr c7
  subst c7
  have H1 : (none) = some r := by rw [if_neg (show ¬ (false = true) by decide)] at H; exact H
  clear H
  have H := H1
  clear H1
  exact absurd H (by simp)
end Go.Proofs.Ytdbamhckgaoibaa.P
namespace Go.Proofs.Ytdbamhckgaoibaa.P
open Go.RowKit Go.Proofs.YtdbamhckgaoibaaW.PrintWords Go.Proofs.YtdbamhckgaoibaaW.PrintLast Go.Proofs.YtdbamhckgaoibaaW.PrintMore
set_option linter.unusedVariables false
theorem hides_l0 (who w : List Int) (S T : Int) (u : List Int) (by_ : Int) (rows : List (List Int)) (owners : List Int) (hl : w.length = u.length + 1) (hn : u.length < 1000000) (k : Nat) : ∀ d j, u.length - j = d → j ≤ u.length →
    signatorylaw34_DealingHides.l0 (k + d + 1) who w S T u by_ ((shiftQ by_ u (w.drop 1)).take j) u (u.length : Int) (j : Int) rows owners = signatorylaw34_DealingHides.l0 (k + 1) who w S T u by_ (shiftQ by_ u (w.drop 1)) u (u.length : Int) (u.length : Int) rows owners := by
  have hsl : (shiftQ by_ u (w.drop 1)).length = u.length := shiftQ_length (by rw [List.length_drop]; omega)
  intro d
  induction d with
  | zero =>
    intro j hd hj
    obtain rfl : j = u.length := by omega
    rw [List.take_of_length_le (by omega)]
  | succ d ih =>
    intro j hd hj
    have b1 : (j : Int) < (u.length : Int) := by omega
    have b2 : (0 : Int) ≤ (j : Int) := by omega
    have b3 : (0 : Int) ≤ ((j + 1 : Nat) : Int) := by omega
    have b4 : ((j + 1 : Nat) : Int) < (w.length : Int) := by omega
    have b5 : ((shiftQ by_ u (w.drop 1)).take j).length < 17592186044416 := by rw [List.length_take]; omega
    have hj2 : j < u.length := by omega
    have hx : (shiftQ by_ u (w.drop 1)).take j ++ [(u.getD j 0 + by_ * w.getD (j + 1) 0 % 1073741789) % 1073741789] = (shiftQ by_ u (w.drop 1)).take (j + 1) := by
      rw [List.take_succ_eq_append_getElem (by rw [hsl]; exact hj2)]
      congr 2
      unfold shiftQ
      rw [List.getElem_zipWith, List.getElem_drop, List.getD_eq_getElem?_getD, List.getElem?_eq_getElem hj2, List.getD_eq_getElem?_getD, List.getElem?_eq_getElem (by omega)]
      simp only [Option.getD_some, Nat.add_comm 1 j]
      omega
    have hi := ih (j + 1) (by omega) (by omega)
    conv => lhs; rw [signatorylaw34_DealingHides.l0]
    rw [if_pos b1, if_pos b2, if_pos b1, wrap_succ (by omega), if_pos b3, if_pos b4, rd_nat, rd_nat]
    unfold field_Mul_m.f field_Add_m.f
    rw [Option.bind_some, Option.bind_some, if_pos b5, hx, ← Nat.add_assoc]
    exact hi
theorem hides_l1 {rows : List (List Int)} {owners : List Int} (who s t : List Int) (hn : rows.length < 1000000) (k : Nat) : ∀ d j, rows.length - j = d → j ≤ rows.length →
    signatorylaw34_DealingHides.l1 (k + d + 1) who (sharesQ rows s) (sharesQ rows t) (rows.length : Int) (j : Int) rows owners = signatorylaw34_DealingHides.l1 (k + 1) who (sharesQ rows s) (sharesQ rows t) (rows.length : Int) (rows.length : Int) rows owners := by
  intro d
  induction d with
  | zero =>
    intro j hd hj
    obtain rfl : j = rows.length := by omega
    rfl
  | succ d ih =>
    intro j hd hj
    have hj1 : j < rows.length := by omega
    have b1 : (j : Int) < (rows.length : Int) := by omega
    have b2 : (0 : Int) ≤ (j : Int) := by omega
    have b3 : (j : Int) < ((sharesQ rows s).length : Int) := by rw [shares_len]; exact b1
    have b4 : (j : Int) < ((sharesQ rows t).length : Int) := by rw [shares_len]; exact b1
    have hi := ih (j + 1) (by omega) (by omega)
    conv => lhs; rw [signatorylaw34_DealingHides.l1]
    rw [if_pos b1, if_pos b2, if_pos b3, shares_rd1 hj1, if_pos rfl, if_pos b4, shares_rd1 hj1, if_pos rfl, wrap_succ (by omega), ← Nat.add_assoc]
    exact hi
theorem outQ_of {l : List Int} (h : ∀ x ∈ l, inQ x = true) : l.any outQ = false := outQ_inF fun x hx => by
  have := h x hx
  unfold inQ at this
  rw [Bool.and_eq_true, decide_eq_true_eq, decide_eq_true_eq] at this
  exact this
theorem pick_length (rows : List (List Int)) (s : List Int) (idx : List Nat) : (pickS rows s idx).length = idx.length := by unfold pickS; rw [List.length_map]
theorem dealingHides_true (rows : List (List Int)) (owners : List Int) (secret z : Int) (l : List Int) (some_ : Int) (h1 : (Lit.int .u32 secret).wf = true) (h2 : (Lit.int .u32 z).wf = true) (h3 : ∀ x ∈ l, (Lit.int .u32 x).wf = true) :
    signatorylaw34_DealingHides.f 10000 rows owners secret z l some_ = some true := by
  have hs := fieldOf_inQ (word_inQ h1).1 (word_inQ h1).2
  have ht := fieldOf_inQ (word_inQ h2).1 (word_inQ h2).2
  have hr := fun m => randomQ_ok (m := m) (fun x hx => word_inQ (h3 x hx))
  unfold signatorylaw34_DealingHides.f
  rw [show signatorylaw34_sane.f = some true from rfl, Option.bind_some, if_pos rfl, small_math _ _ _ (by omega), Option.bind_some]
  cases hsm : (decide (rows.length ≤ 16) && decide (checkP rows owners = 0) && decide (colsP rows ≤ 16)) with
  | false => rfl
  | true =>
    rw [Bool.and_eq_true, Bool.and_eq_true, decide_eq_true_eq, decide_eq_true_eq, decide_eq_true_eq] at hsm
    obtain ⟨⟨h16, hc⟩, hcl⟩ := hsm
    have hc1 := cols_pos hc
    have hlen : (randomQ (colsP rows - 1) l).length + 1 = colsP rows := by rw [randomQ_length]; omega
    obtain ⟨who, hw1, hw2⟩ := people_math some_ 10000 (by omega)
    have href : program_Refuses.f rows owners who = some (refuQ rows owners who) := by
      unfold program_Refuses.f progOk
      rw [decide_eq_true hc, hw2]; rfl
    rw [if_pos rfl, hw1, Option.bind_some, href, Option.bind_some]
    unfold refuQ
    rw [if_pos hc, if_pos hw2]
    cases hsp : Sig.separate (ownRows rows owners who) (targetP rows) with
    | none => rfl
    | some w =>
      obtain ⟨g1, g2, g3, g4⟩ := refu_parts hc hsp
      rw [if_pos rfl, if_pos rfl, random_math hc1 (by omega) _ (by omega), Option.bind_some, show Int.tmod (wrap64 secret) 1073741789 = fieldOf secret from rfl, show Int.tmod (wrap64 z) 1073741789 = fieldOf z from rfl]
      have hu := hr (colsP rows - 1)
      generalize randomQ (colsP rows - 1) l = u at *
      generalize fieldOf secret = S at *
      generalize fieldOf z = T at *
      have hS := hs
      have hT := ht
      unfold inQ at hS hT
      rw [Bool.and_eq_true, decide_eq_true_eq, decide_eq_true_eq] at hS hT
      have hwl : (w.length : Int) = wrap64 ((u.length : Int) + 1) := by rw [wrap_succ (by omega)]; omega
      have hwS : wrap64 (1073741789 - S) = 1073741789 - S := by unfold wrap64; omega
      obtain ⟨by_, hby⟩ : ∃ b, b = (T + (1073741789 - S)) % 1073741789 := ⟨_, rfl⟩
      unfold field_Add_m.f
      rw [if_pos hwl, Option.bind_some, hwS, ← hby]
      have e0 := hides_l0 who w S T u by_ rows owners (by omega) (by omega) (9999 - u.length) u.length 0 (by omega) (by omega)
      rw [show 9999 - u.length + u.length + 1 = 10000 by omega, List.take_zero] at e0
      refine e0.trans ?_
      match w, g1, g3 with
      | a :: w, g1, g3 =>
      obtain rfl : a = 1 := g3
      rw [List.drop_succ_cons, List.drop_zero]
      have hshift : shiftQ by_ (S :: u) (1 :: w) = T :: shiftQ by_ u w := by
        unfold shiftQ
        rw [List.zipWith_cons_cons]
        congr 1
        omega
      rw [List.length_cons] at g1
      have hslen : (shiftQ by_ u w).length = u.length := shiftQ_length (by omega)
      have hd1 := deal_good hc hs hu hlen
      have hd2 := deal_good hc ht (outQ_of (shiftQ_inQ (by_ := by_) (s := u) (w := w))) (by omega)
      rw [← hshift] at hd2
      have b0 : ¬ ((u.length : Int) < (u.length : Int)) := by omega
      have b1 : ((sharesQ rows (S :: u)).length : Int) = (rows.length : Int) := by rw [shares_len]
      have b2 : ((sharesQ rows (shiftQ by_ (S :: u) (1 :: w))).length : Int) = (rows.length : Int) := by rw [shares_len]
      rw [signatorylaw34_DealingHides.l0, if_neg b0]
      refine (congrArg (fun o => Option.bind (some o) _) hd1).trans ?_
      rw [Option.bind_some]
      refine (congrArg (fun o => Option.bind (some o) _) hd2).trans ?_
      rw [Option.bind_some, if_pos rfl, if_pos rfl, if_pos b1, if_pos b2, shares_len]
      have e1 := hides_l1 (owners := owners) who (S :: u) (shiftQ by_ (S :: u) (1 :: w)) (by omega : rows.length < 1000000) (9998 - u.length - rows.length) rows.length 0 (by omega) (by omega)
      rw [show 9998 - u.length - rows.length + rows.length + 1 = 9999 - u.length by omega] at e1
      refine e1.trans ?_
      have b3 : ¬ ((rows.length : Int) < (rows.length : Int)) := by omega
      rw [signatorylaw34_DealingHides.l1, if_neg b3, of_math hc hw2 _ (by omega), Option.bind_some, of_math hc hw2 _ (by omega), Option.bind_some,
        pick_moved (by rw [List.length_cons, List.length_cons]; omega) g4, same_math _ _ (by rw [pick_length]; have := ownIdx_le owners who rows.length; omega) _ (by rw [pick_length]; have := ownIdx_le owners who rows.length; omega), sameS_refl]
      rfl
end Go.Proofs.Ytdbamhckgaoibaa.P
