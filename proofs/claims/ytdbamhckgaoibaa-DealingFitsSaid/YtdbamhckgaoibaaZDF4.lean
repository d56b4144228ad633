/- A part of the proof of DealingFits: The calls of dealing.Deal come to what their functions in Lean say.; program.Check in plain words.; The group in plain words: elements, powers, the generator.; slices.Collect over an iterator that yields known slices.; dealing.rows: the rows of shares, in turn.; linear.reduce brings the table into its form. -/
import Derived.Test.YtdbamhckgaoibaaZDF3
namespace Go.Proofs.Ytdbamhckgaoibaa.P
open Go.RowKit Go.Proofs.YtdbamhckgaoibaaW.PrintWords Go.Proofs.YtdbamhckgaoibaaW.PrintLast Go.Proofs.YtdbamhckgaoibaaW.PrintMore
attribute [local go_sem] max2_int min2_int max_two min_two max_three min_three max_four min_four
set_option linter.unusedVariables false
set_option linter.unusedSimpArgs false
mutual
def dealing_Deal.j0 : Nat → Int → List Int → List (S38) → List Int → Bool → List (List Int) → List Int → Option ((List (S38)) × List Int × Int)
 | 0, _, _, _, _, _, _, _ => none
 | k + 1, x1, x2, x6, x7, x38, x167000, x167001 => if x38 = true then (some (([] : List (S38)), ([] : List Int), 1)) else ((slices_Concat_int_int.f (([(([x1] : List Int)), x2] : List (List Int)))).bind fun t180 => (dealing_Deal.l0 k x6 x7 t180 x167000 (x167000.length : Int) 0))
def dealing_Deal.l0 : Nat → List (S38) → List Int → List Int → List (List Int) → Int → Int → Option ((List (S38)) × List Int × Int)
 | 0, _, _, _, _, _, _ => none
 | k + 1, x6, x7, x10, x45, x46, x47 => if x47 < x46 then (if 0 ≤ x47 then (if x47 < (x45.length : Int) then ((dealing_times.f (rd_L1 x45 x47) x10).bind fun t184 => (if x6.length < 8796093022208 then (dealing_Deal.l0 k (x6 ++ [(⟨x47, t184⟩ : S38)]) x7 x10 x45 x46 (wrap64 (x47 + 1))) else (none))) else (none)) else (none)) else (dealing_Deal.l1 k x6 x7 x10 (x10.length : Int) 0)
def dealing_Deal.l1 : Nat → List (S38) → List Int → List Int → Int → Int → Option ((List (S38)) × List Int × Int)
 | 0, _, _, _, _, _ => none
 | k + 1, x6, x7, x61, x62, x63 => if x63 < x62 then (if 0 ≤ x63 then (if x63 < (x61.length : Int) then ((group_Pow.f 4 (rd x61 x63)).bind fun bt189 => (if bt189.2 = 0 then (if x7.length < 17592186044416 then (dealing_Deal.l1 k x6 (x7 ++ [bt189.1]) x61 x62 (wrap64 (x63 + 1))) else (none)) else (some (([] : List (S38)), ([] : List Int), bt189.2)))) else (none)) else (none)) else (some (x6, x7, 0))
end
def dealing_Deal.f (k : Nat) (l0_0 : List (List Int)) (l0_1 : List Int) (a1 : Int) (l2 : List Int) : Option ((List (S38)) × List Int × Int) := (program_Check.f k l0_0 l0_1).bind fun t167 => (if t167 = 0 then ((dealing_numbers.f (([a1] : List Int))).bind fun t171 => (if t171 = true then ((dealing_numbers.f l2).bind fun t172 => (if t172 = true then ((dealing_columns.f l0_0 l0_1).bind fun t173 => (dealing_Deal.j0 k a1 l2 ([] : List (S38)) ([] : List Int) ((l2.length : Int) != (wrap64 (t173 - 1))) l0_0 l0_1)) else (dealing_Deal.j0 k a1 l2 ([] : List (S38)) ([] : List Int) true l0_0 l0_1))) else (dealing_Deal.j0 k a1 l2 ([] : List (S38)) ([] : List Int) true l0_0 l0_1))) else (some (([] : List (S38)), ([] : List Int), t167)))
set_option maxHeartbeats 8000000 in
set_option maxRecDepth 100000 in
theorem dealing_Deal.calls (k : Nat) (A0_0 : Option Addr) (c0_0 : Nat) (l0_0 : List (List Int)) (A0_1 : Option Addr) (c0_1 : Nat) (l0_1 : List Int) (a1 : Int) (P2_ : Nat → Prop) (A2 : Option Addr) (c2 : Nat) (l2 : List Int) (r1 : List (S38)) (r2 : List Int) (r3 : Int) (w : World) (hr0_0 : Kd.C (Kd.slice 3 (Kd.int .i64)) w A0_0 l0_0.length l0_0) (hc0_0 : l0_0.length ≤ c0_0) (hr0_1 : Kd.C (Kd.int .i64) w A0_1 l0_1.length l0_1) (hc0_1 : l0_1.length ≤ c0_1) (hs2 : Kd.V (Kd.int .i64) 3 w w.heap.size (fun k_ => P2_ k_) (.slice A2 l2.length c2) l2) (h : dealing_Deal.f k l0_0 l0_1 a1 l2 = some (r1, r2, r3)) :
  Calls Try.prog 22 #[.agg #[.slice A0_0 l0_0.length c0_0, .slice A0_1 l0_1.length c0_1], .int .i64 a1, .slice A2 l2.length c2] w fun e w' => ∃ v0_ v1_ : Value, e = .returned (.tuple #[v0_, v1_, .int .i64 r3]) ∧ Kd.R k38 38 w' w.heap.size (fun k_ => (w.heap.size ≤ k_)) v0_ r1 ∧ Kd.R (Kd.int .i64) 3 w' w.heap.size (fun k_ => (w.heap.size ≤ k_)) v1_ r2 ∧ Below w.heap.size w w' := by
 have hu25 := Try.underlying25
 have hu38 := Try.underlying38
 have HR0_0 := Aside0.mk hr0_0
 have HC0_0 := Aside0.mk hc0_0
 clear hr0_0 hc0_0
 have HR0_1 := Aside0.mk hr0_1
 have HC0_1 := Aside0.mk hc0_1
 clear hr0_1 hc0_1
 have HO2 := Aside0.mk (show Kd.V (Kd.int .i64) 3 w w.heap.size (fun k_ => (P2_ k_ ∨ w.heap.size ≤ k_)) (.slice A2 l2.length c2) l2 from Kd.V_mono hs2 (fun k_ hk => .inl hk))
 have HB := Aside0.mk (Below.refl w.heap.size w)
 have H : ((program_Check.f k l0_0 l0_1).bind fun t167 => (if t167 = 0 then ((dealing_numbers.f (([a1] : List Int))).bind fun t171 => (if t171 = true then ((dealing_numbers.f l2).bind fun t172 => (if t172 = true then ((dealing_columns.f l0_0 l0_1).bind fun t173 => (dealing_Deal.j0 k a1 l2 ([] : List (S38)) ([] : List Int) ((l2.length : Int) != (wrap64 (t173 - 1))) l0_0 l0_1)) else (dealing_Deal.j0 k a1 l2 ([] : List (S38)) ([] : List Int) true l0_0 l0_1))) else (dealing_Deal.j0 k a1 l2 ([] : List (S38)) ([] : List Int) true l0_0 l0_1))) else (some (([] : List (S38)), ([] : List Int), t167)))) = some (r1, r2, r3) := h
 clear h
 replace H := Option.bind_eq_some_iff.mp H
 obtain ⟨t167, A40, H⟩ := H
 replace H : (if t167 = 0 then ((dealing_numbers.f (([a1] : List Int))).bind fun t171 => (if t171 = true then ((dealing_numbers.f l2).bind fun t172 => (if t172 = true then ((dealing_columns.f l0_0 l0_1).bind fun t173 => (dealing_Deal.j0 k a1 l2 ([] : List (S38)) ([] : List Int) ((l2.length : Int) != (wrap64 (t173 - 1))) l0_0 l0_1)) else (dealing_Deal.j0 k a1 l2 ([] : List (S38)) ([] : List Int) true l0_0 l0_1))) else (dealing_Deal.j0 k a1 l2 ([] : List (S38)) ([] : List Int) true l0_0 l0_1))) else (some (([] : List (S38)), ([] : List Int), t167))) = some (r1, r2, r3) := H
 have A4 := Aside0.mk A40
 clear A40
 by_cases c5 : t167 = 0
 ·rw [if_pos c5] at H
  have c5b0 : (t167 == 0) = true := beq_iff_eq.mpr c5
  have c5b1 : (t167 != 0) = false := bne_eq_false_iff_eq.mpr c5
  clear c5
  have HC6 := Aside0.mk H
  clear H
  go_enter Try.func22, Try.ntmps22
  go_upto_region 4 with (first | ((with_reducible refine gate_dst (N := 3) rfl ?_); (try (refine gate_guard (by rfl) ?_; dsimp only)); refine box_event ?hg (N := 3) ?hd (cs := #[.slice A0_0 l0_0.length c0_0, .slice A0_1 l0_1.length c0_1]) (t := 25) ?hr ?_; (case hd => rfl); (case hg => rfl); (case hr => first | (go_simp; done) | (go_simp; rfl)); intro gb166 hg w7 hbox hb; have n0_ := Aside0.mk (Kd.V_below (Kd.V_elderB (by (with_reducible repeat (first | apply Kd.V_alloc | apply Kd.V_drewN | apply Kd.V_drew)); exact HO2.out) gb166 (Nat.le_of_eq hg.symm)) hb); have n1_ := Aside0.mk (below_step (by repeat (first | (with_reducible first | exact HB.out | apply below_alloc | apply pw_below_drewN | apply below_drew1) | exact HB.out)) hb); have n2_ := Aside0.mk (hbox); have n3_ := Aside0.mk ((by rw [hg]; exact (below_size (by repeat (first | (with_reducible first | exact HB.out | apply below_alloc | apply pw_below_drewN | apply below_drew1) | exact HB.out))) : w.heap.size ≤ gb166)); have n4_ := Aside0.mk ((by rw [hg]; exact (below_size (by repeat (first | (with_reducible first | exact HB.out | apply below_alloc | apply pw_below_drewN | apply below_drew1) | exact HB.out))) : w.heap.size ≤ gb166)); clear HO2; clear HB; have HO2 := n0_; have HB := n1_; have BK166 := n2_; have GW166 := n3_; have GE166 := n4_; clear n0_ n1_ n2_ n3_ n4_; clear hb hbox hg; have hcz8_0 : w7.cell? ⟨gb166, 0, none⟩ = some (.slice A0_0 l0_0.length c0_0) := (blk_cell BK166.out 0).trans rfl; have hcz8_1 : w7.cell? ⟨gb166, 1, none⟩ = some (.slice A0_1 l0_1.length c0_1) := (blk_cell BK166.out 1).trans rfl; have hfz8_0 := blk_frozen BK166.out 0; have hfz8_1 := blk_frozen BK166.out 1) | ((with_reducible refine gate_callee (f := 82) rfl ?_); refine goesL_ (some 18) rfl rfl Try.func82 (by kernel_rfl) rfl #[.agg #[.slice A0_0 l0_0.length c0_0, .slice A0_1 l0_1.length c0_1]] rfl (by (try simp only [List.map_toArray, List.map_cons, List.map_nil]); first | done | rfl | (simp only [List.length_drop, List.length_take]; rfl)) ?_; (with_reducible refine (program_Check.calls k _ _ l0_0 _ _ l0_1 t167 _ ?side1 ?side2 ?side3 ?side4 A4.out).mono ?_); (case side1 => repeat (first | exact (Kd.C_below HR0_0.out HB.out) | (with_reducible refine Kd.C_alloc ?_ _) | (with_reducible refine Kd.C_drewN ?_ _) | (with_reducible refine Kd.C_drew ?_))); (case side2 => exact HC0_0.out); (case side3 => repeat (first | exact (Kd.C_below HR0_1.out HB.out) | (with_reducible refine Kd.C_alloc ?_ _) | (with_reducible refine Kd.C_drewN ?_ _) | (with_reducible refine Kd.C_drew ?_))); (case side4 => exact HC0_1.out); rintro e w9 ⟨rfl, hb⟩; refine ⟨_, rfl, ?_⟩; have n0_ := Aside0.mk (Kd.V_below (by (with_reducible repeat (first | apply Kd.V_alloc | apply Kd.V_drewN | apply Kd.V_drew)); exact HO2.out) hb); have n1_ := Aside0.mk (blk_below (g := gb166) (o := .cells #[.slice A0_0 l0_0.length c0_0, .slice A0_1 l0_1.length c0_1] 25 (0, 0)) (by (with_reducible repeat (first | refine blk_drewN ?_ _ | refine blk_drew ?_ | refine blk_alloc ?_ _)); exact BK166.out) hb); have n2_ := Aside0.mk (below_step (by repeat (first | (with_reducible first | exact HB.out | apply below_alloc | apply pw_below_drewN | apply below_drew1 | refine below_set ?_ GE166.out) | exact HB.out)) hb); clear HO2; clear BK166; clear HB; have HO2 := n0_; have BK166 := n1_; have HB := n2_; clear n0_ n1_ n2_; (try clear hb); (try clear hb2); (try clear hk); (try clear hi)))
  (try simp only [Act.put, List.setIfInBounds_toArray, List.set_cons_zero, List.set_cons_succ])
  go_cut [38] (fun v38 wc => ∃ (kq : Nat) (x38_5 : Bool), v38 = .bool x38_5 ∧ Aside0 (dealing_Deal.j0 kq a1 l2 ([] : List (S38)) ([] : List Int) x38_5 l0_0 l0_1 = some (r1, r2, r3)) ∧ Aside0 (kq ≤ k) ∧ Aside0 (Kd.V (Kd.int .i64) 3 wc w.heap.size (fun k_ => (P2_ k_ ∨ w.heap.size ≤ k_) ∧ some k_ ≠ ((.slice none 0 0) : Value).ownBlock ∧ some k_ ≠ ((.slice none 0 0) : Value).ownBlock ∧ k_ ≠ gb166) (.slice A2 l2.length c2) l2) ∧ Aside0 (Kd.R k38 38 wc w.heap.size (fun k_ => (w.heap.size ≤ k_)) (.slice none 0 0) ([] : List (S38))) ∧ Aside0 (Kd.R (Kd.int .i64) 3 wc w.heap.size (fun k_ => (w.heap.size ≤ k_)) (.slice none 0 0) ([] : List Int)) ∧ Aside0 (wc.heap[gb166]? = some (.cells #[(.slice A0_0 l0_0.length c0_0), (.slice A0_1 l0_1.length c0_1)] 25 (0, 0))) ∧ Aside0 (Below w.heap.size w wc))
  case first =>
   have H := HC6.out
   clear HC6
   obtain ⟨y168, hy168⟩ : ∃ y_ : List Int, y_ = (([a1] : List Int)) := ⟨_, rfl⟩
   replace H : ((dealing_numbers.f y168).bind fun t171 => (if t171 = true then ((dealing_numbers.f l2).bind fun t172 => (if t172 = true then ((dealing_columns.f l0_0 l0_1).bind fun t173 => (dealing_Deal.j0 k a1 l2 ([] : List (S38)) ([] : List Int) ((l2.length : Int) != (wrap64 (t173 - 1))) l0_0 l0_1)) else (dealing_Deal.j0 k a1 l2 ([] : List (S38)) ([] : List Int) true l0_0 l0_1))) else (dealing_Deal.j0 k a1 l2 ([] : List (S38)) ([] : List Int) true l0_0 l0_1))) = some (r1, r2, r3) := by first | (rw [hy168]; with_reducible exact H) | (have H2_ := (Option.bind_some _ _).symm.trans H; rw [hy168]; with_reducible exact H2_) | (have H2_ := (Option.bind_some _ _).symm.trans H; with_reducible exact H2_) | with_reducible exact H | (rw [hy168]; exact H) | exact H
   have Ny168 := Aside0.mk hy168
   clear hy168
   replace H := Option.bind_eq_some_iff.mp H
   obtain ⟨t171, A100, H⟩ := H
   replace H : (if t171 = true then ((dealing_numbers.f l2).bind fun t172 => (if t172 = true then ((dealing_columns.f l0_0 l0_1).bind fun t173 => (dealing_Deal.j0 k a1 l2 ([] : List (S38)) ([] : List Int) ((l2.length : Int) != (wrap64 (t173 - 1))) l0_0 l0_1)) else (dealing_Deal.j0 k a1 l2 ([] : List (S38)) ([] : List Int) true l0_0 l0_1))) else (dealing_Deal.j0 k a1 l2 ([] : List (S38)) ([] : List Int) true l0_0 l0_1)) = some (r1, r2, r3) := H
   have A10 := Aside0.mk A100
   clear A100
   by_cases c11 : t171 = true
   ·subst c11
    have H1 : ((dealing_numbers.f l2).bind fun t172 => (if t172 = true then ((dealing_columns.f l0_0 l0_1).bind fun t173 => (dealing_Deal.j0 k a1 l2 ([] : List (S38)) ([] : List Int) ((l2.length : Int) != (wrap64 (t173 - 1))) l0_0 l0_1)) else (dealing_Deal.j0 k a1 l2 ([] : List (S38)) ([] : List Int) true l0_0 l0_1))) = some (r1, r2, r3) := by rw [if_pos rfl] at H; exact H
    clear H
    have H := H1
    clear H1
    replace H := Option.bind_eq_some_iff.mp H
    obtain ⟨t172, A120, H⟩ := H
    replace H : (if t172 = true then ((dealing_columns.f l0_0 l0_1).bind fun t173 => (dealing_Deal.j0 k a1 l2 ([] : List (S38)) ([] : List Int) ((l2.length : Int) != (wrap64 (t173 - 1))) l0_0 l0_1)) else (dealing_Deal.j0 k a1 l2 ([] : List (S38)) ([] : List Int) true l0_0 l0_1)) = some (r1, r2, r3) := H
    have A12 := Aside0.mk A120
    clear A120
    by_cases c13 : t172 = true
    ·subst c13
     have H1 : ((dealing_columns.f l0_0 l0_1).bind fun t173 => (dealing_Deal.j0 k a1 l2 ([] : List (S38)) ([] : List Int) ((l2.length : Int) != (wrap64 (t173 - 1))) l0_0 l0_1)) = some (r1, r2, r3) := by rw [if_pos rfl] at H; exact H
     clear H
     have H := H1
     clear H1
     replace H := Option.bind_eq_some_iff.mp H
     obtain ⟨t173, A140, H⟩ := H
     replace H : (dealing_Deal.j0 k a1 l2 ([] : List (S38)) ([] : List Int) ((l2.length : Int) != (wrap64 (t173 - 1))) l0_0 l0_1) = some (r1, r2, r3) := H
     have A14 := Aside0.mk A140
     clear A140
     have H' := Aside0.mk H
     clear H
     go_wp2_with (first | ((with_reducible refine gate_dst (N := 23) rfl ?_); (try (refine gate_guard (by rfl) ?_; dsimp only)); refine Kd.R_lit (Kd.int .i64) _ 3 ?hg (N := 23) ?hd (xs := ([a1] : List Int)) (inner := [.int .i64 a1]) (ok := fun _ => True) (okp := fun _ => True) ?hr ?hp (fun _ hk => hk) trivial (Below.refl _ _) (Nat.le_refl _) (by simp) ?_; (case hd => rfl); (case hg => rfl); (case hr => first | (go_simp; done) | (go_simp; rfl)); (case hp => exact (Reps.one (show Kd.M (Kd.int .i64) _ _ _ a1 [.int .i64 a1] from rfl) (Reps.none _ _))); intro v169 w15 ho16 hb hg_ hnew_; clear hg_ hnew_; (first | rw [← Ny168.out] at ho16 | (simp only [Int.reduceToNat] at ho16; rw [← Ny168.out] at ho16)); have n0_ := Aside0.mk (Kd.V_elder' (by (with_reducible repeat (first | apply Kd.V_alloc | apply Kd.V_drewN | apply Kd.V_drew)); exact HO2.out) (Kd.R_base ho16) hb); have n1_ := Aside0.mk (Kd.R_lower (Kd.R_newM (M := fun k_ => (w.heap.size ≤ k_)) ho16 (below_size (by repeat (first | (with_reducible first | exact HB.out | apply below_alloc | apply pw_below_drewN | apply below_drew1 | refine below_set ?_ GE166.out) | exact HB.out))) (fun k_ h_ => h_)) (below_size (by repeat (first | (with_reducible first | exact HB.out | apply below_alloc | apply pw_below_drewN | apply below_drew1 | refine below_set ?_ GE166.out) | exact HB.out)))); have n2_ := Aside0.mk (blk_below (g := gb166) (o := .cells #[.slice A0_0 l0_0.length c0_0, .slice A0_1 l0_1.length c0_1] 25 (0, 0)) (by (with_reducible repeat (first | refine blk_drewN ?_ _ | refine blk_drew ?_ | refine blk_alloc ?_ _)); exact BK166.out) hb); have n3_ := Aside0.mk (below_step (by repeat (first | (with_reducible first | exact HB.out | apply below_alloc | apply pw_below_drewN | apply below_drew1 | refine below_set ?_ GE166.out) | exact HB.out)) hb); clear HO2; clear BK166; clear HB; have HO2 := n0_; have HO170 := n1_; have BK166 := n2_; have HB := n3_; clear n0_ n1_ n2_ n3_; clear hb ho16; obtain ⟨Ao17, co17, eo17⟩ := Kd.R_slice HO170.out; subst eo17) | ((with_reducible refine gate_callee (f := 83) rfl ?_); refine goesL_ (some 24) rfl rfl Try.func83 (by kernel_rfl) rfl #[.slice Ao17 y168.length co17] rfl (by (try simp only [List.map_toArray, List.map_cons, List.map_nil]); first | done | rfl | (simp only [List.length_drop, List.length_take]; rfl)) ?_; (with_reducible refine (dealing_numbers.calls _ _ y168 true _ ?side1 ?side2 A10.out).mono ?_); (case side1 => repeat (first | exact (Kd.R_reads' HO170.out).2.2 | (with_reducible refine Kd.C_alloc ?_ _) | (with_reducible refine Kd.C_drewN ?_ _) | (with_reducible refine Kd.C_drew ?_))); (case side2 => exact (Kd.R_reads' HO170.out).2.1); rintro e w' ⟨rfl, ⟨nd, rfl⟩⟩; refine ⟨_, rfl, ?_⟩) | (go_at_call 83; (with_reducible refine (dealing_numbers.calls _ _ l2 true _ ?side1 ?side2 A12.out).mono ?_); (case side1 => repeat (first | exact (Kd.V_reads' HO2.out).2.2 | (with_reducible refine Kd.C_alloc ?_ _) | (with_reducible refine Kd.C_drewN ?_ _) | (with_reducible refine Kd.C_drew ?_))); (case side2 => exact (Kd.V_reads' HO2.out).2.1); rintro e w' ⟨rfl, ⟨nd, rfl⟩⟩; have hcz18_0 : w15.cell? ⟨gb166, 0, none⟩ = some (.slice A0_0 l0_0.length c0_0) := (blk_cell BK166.out 0).trans rfl; have hcz18_1 : w15.cell? ⟨gb166, 1, none⟩ = some (.slice A0_1 l0_1.length c0_1) := (blk_cell BK166.out 1).trans rfl; have hfz18_0 := blk_frozen BK166.out 0; have hfz18_1 := blk_frozen BK166.out 1) | (go_at_call 84; (with_reducible refine (dealing_columns.calls _ _ l0_0 _ _ l0_1 t173 _ ?side1 ?side2 ?side3 ?side4 A14.out).mono ?_); (case side1 => repeat (first | exact (Kd.C_below HR0_0.out (by repeat (first | (with_reducible first | exact HB.out | apply below_alloc | apply pw_below_drewN | apply below_drew1 | refine below_set ?_ GE166.out) | exact HB.out))) | (with_reducible refine Kd.C_alloc ?_ _) | (with_reducible refine Kd.C_drewN ?_ _) | (with_reducible refine Kd.C_drew ?_))); (case side2 => exact HC0_0.out); (case side3 => repeat (first | exact (Kd.C_below HR0_1.out (by repeat (first | (with_reducible first | exact HB.out | apply below_alloc | apply pw_below_drewN | apply below_drew1 | refine below_set ?_ GE166.out) | exact HB.out))) | (with_reducible refine Kd.C_alloc ?_ _) | (with_reducible refine Kd.C_drewN ?_ _) | (with_reducible refine Kd.C_drew ?_))); (case side4 => exact HC0_1.out); rintro e w19 ⟨rfl, hb⟩; have n0_ := Aside0.mk (Kd.V_below (by (with_reducible repeat (first | apply Kd.V_alloc | apply Kd.V_drewN | apply Kd.V_drew)); exact HO2.out) hb); have n1_ := Aside0.mk (Kd.R_below (by (with_reducible repeat (first | apply Kd.R_alloc | apply Kd.R_drewN | apply Kd.R_drew)); exact HO170.out) hb); have n2_ := Aside0.mk (blk_below (g := gb166) (o := .cells #[.slice A0_0 l0_0.length c0_0, .slice A0_1 l0_1.length c0_1] 25 (0, 0)) (by (with_reducible repeat (first | refine blk_drewN ?_ _ | refine blk_drew ?_ | refine blk_alloc ?_ _)); exact BK166.out) hb); have n3_ := Aside0.mk (below_step (by repeat (first | (with_reducible first | exact HB.out | apply below_alloc | apply pw_below_drewN | apply below_drew1 | refine below_set ?_ GE166.out) | exact HB.out)) hb); clear HO2; clear HO170; clear BK166; clear HB; have HO2 := n0_; have HO170 := n1_; have BK166 := n2_; have HB := n3_; clear n0_ n1_ n2_ n3_; (try clear hb); (try clear hb2); (try clear hk); (try clear hi)))
     go_meet
     case rel => exact ⟨_, (((l2.length : Int) != (wrap64 (t173 - 1)))), (by first | rfl | (simp; done) | (simp [*]; done)), H', ⟨by first | omega | exact Nat.le_refl _⟩, ⟨by (with_reducible repeat (first | apply Kd.V_alloc | apply Kd.V_drewN | apply Kd.V_drew)); exact Kd.V_mono HO2.out (fun _ hk => ⟨hk.1.1, ⟨(by simp [Value.ownBlock]), ⟨(by simp [Value.ownBlock]), hk.1.2⟩⟩⟩)⟩, ⟨by first | exact Kd.R_nil _ _ _ _ _ | exact Kd.N_nil _ _ _ _ _ | exact Kd.V_nil _ _ _ _ _ | exact Kd.Q_nil _ _ _ _ _ | exact Kd.S_nil _ _ _ _ _⟩, ⟨by first | exact Kd.R_nil _ _ _ _ _ | exact Kd.N_nil _ _ _ _ _ | exact Kd.V_nil _ _ _ _ _ | exact Kd.Q_nil _ _ _ _ _ | exact Kd.S_nil _ _ _ _ _⟩, ⟨by (with_reducible repeat (first | refine blk_drewN ?_ _ | refine blk_drew ?_ | refine blk_alloc ?_ _)); exact BK166.out⟩, ⟨by repeat (first | (with_reducible first | exact HB.out | apply below_alloc | apply pw_below_drewN | apply below_drew1 | refine below_set ?_ GE166.out) | exact HB.out)⟩⟩
    ·replace c13 := Bool.eq_false_iff.mpr c13
     subst c13
     have H1 : (dealing_Deal.j0 k a1 l2 ([] : List (S38)) ([] : List Int) true l0_0 l0_1) = some (r1, r2, r3) := by rw [if_neg (show ¬ (false = true) by decide)] at H; exact H
     clear H
     have H := H1
     clear H1
     have H' := Aside0.mk H
     clear H
     go_wp2_with (first | ((with_reducible refine gate_dst (N := 23) rfl ?_); (try (refine gate_guard (by rfl) ?_; dsimp only)); refine Kd.R_lit (Kd.int .i64) _ 3 ?hg (N := 23) ?hd (xs := ([a1] : List Int)) (inner := [.int .i64 a1]) (ok := fun _ => True) (okp := fun _ => True) ?hr ?hp (fun _ hk => hk) trivial (Below.refl _ _) (Nat.le_refl _) (by simp) ?_; (case hd => rfl); (case hg => rfl); (case hr => first | (go_simp; done) | (go_simp; rfl)); (case hp => exact (Reps.one (show Kd.M (Kd.int .i64) _ _ _ a1 [.int .i64 a1] from rfl) (Reps.none _ _))); intro v169 w20 ho21 hb hg_ hnew_; clear hg_ hnew_; (first | rw [← Ny168.out] at ho21 | (simp only [Int.reduceToNat] at ho21; rw [← Ny168.out] at ho21)); have n0_ := Aside0.mk (Kd.V_elder' (by (with_reducible repeat (first | apply Kd.V_alloc | apply Kd.V_drewN | apply Kd.V_drew)); exact HO2.out) (Kd.R_base ho21) hb); have n1_ := Aside0.mk (Kd.R_lower (Kd.R_newM (M := fun k_ => (w.heap.size ≤ k_)) ho21 (below_size (by repeat (first | (with_reducible first | exact HB.out | apply below_alloc | apply pw_below_drewN | apply below_drew1 | refine below_set ?_ GE166.out) | exact HB.out))) (fun k_ h_ => h_)) (below_size (by repeat (first | (with_reducible first | exact HB.out | apply below_alloc | apply pw_below_drewN | apply below_drew1 | refine below_set ?_ GE166.out) | exact HB.out)))); have n2_ := Aside0.mk (blk_below (g := gb166) (o := .cells #[.slice A0_0 l0_0.length c0_0, .slice A0_1 l0_1.length c0_1] 25 (0, 0)) (by (with_reducible repeat (first | refine blk_drewN ?_ _ | refine blk_drew ?_ | refine blk_alloc ?_ _)); exact BK166.out) hb); have n3_ := Aside0.mk (below_step (by repeat (first | (with_reducible first | exact HB.out | apply below_alloc | apply pw_below_drewN | apply below_drew1 | refine below_set ?_ GE166.out) | exact HB.out)) hb); clear HO2; clear BK166; clear HB; have HO2 := n0_; have HO170 := n1_; have BK166 := n2_; have HB := n3_; clear n0_ n1_ n2_ n3_; clear hb ho21; obtain ⟨Ao22, co22, eo22⟩ := Kd.R_slice HO170.out; subst eo22) | ((with_reducible refine gate_callee (f := 83) rfl ?_); refine goesL_ (some 24) rfl rfl Try.func83 (by kernel_rfl) rfl #[.slice Ao22 y168.length co22] rfl (by (try simp only [List.map_toArray, List.map_cons, List.map_nil]); first | done | rfl | (simp only [List.length_drop, List.length_take]; rfl)) ?_; (with_reducible refine (dealing_numbers.calls _ _ y168 true _ ?side1 ?side2 A10.out).mono ?_); (case side1 => repeat (first | exact (Kd.R_reads' HO170.out).2.2 | (with_reducible refine Kd.C_alloc ?_ _) | (with_reducible refine Kd.C_drewN ?_ _) | (with_reducible refine Kd.C_drew ?_))); (case side2 => exact (Kd.R_reads' HO170.out).2.1); rintro e w' ⟨rfl, ⟨nd, rfl⟩⟩; refine ⟨_, rfl, ?_⟩) | (go_at_call 83; (with_reducible refine (dealing_numbers.calls _ _ l2 false _ ?side1 ?side2 A12.out).mono ?_); (case side1 => repeat (first | exact (Kd.V_reads' HO2.out).2.2 | (with_reducible refine Kd.C_alloc ?_ _) | (with_reducible refine Kd.C_drewN ?_ _) | (with_reducible refine Kd.C_drew ?_))); (case side2 => exact (Kd.V_reads' HO2.out).2.1); rintro e w' ⟨rfl, ⟨nd, rfl⟩⟩))
     go_meet
     case rel => exact ⟨_, (true), (by first | rfl | (simp; done) | (simp [*]; done)), H', ⟨by first | omega | exact Nat.le_refl _⟩, ⟨by (with_reducible repeat (first | apply Kd.V_alloc | apply Kd.V_drewN | apply Kd.V_drew)); exact Kd.V_mono HO2.out (fun _ hk => ⟨hk.1.1, ⟨(by simp [Value.ownBlock]), ⟨(by simp [Value.ownBlock]), hk.1.2⟩⟩⟩)⟩, ⟨by first | exact Kd.R_nil _ _ _ _ _ | exact Kd.N_nil _ _ _ _ _ | exact Kd.V_nil _ _ _ _ _ | exact Kd.Q_nil _ _ _ _ _ | exact Kd.S_nil _ _ _ _ _⟩, ⟨by first | exact Kd.R_nil _ _ _ _ _ | exact Kd.N_nil _ _ _ _ _ | exact Kd.V_nil _ _ _ _ _ | exact Kd.Q_nil _ _ _ _ _ | exact Kd.S_nil _ _ _ _ _⟩, ⟨by (with_reducible repeat (first | refine blk_drewN ?_ _ | refine blk_drew ?_ | refine blk_alloc ?_ _)); exact BK166.out⟩, ⟨by repeat (first | (with_reducible first | exact HB.out | apply below_alloc | apply pw_below_drewN | apply below_drew1 | refine below_set ?_ GE166.out) | exact HB.out)⟩⟩
   ·replace c11 := Bool.eq_false_iff.mpr c11
    subst c11
    have H1 : (dealing_Deal.j0 k a1 l2 ([] : List (S38)) ([] : List Int) true l0_0 l0_1) = some (r1, r2, r3) := by rw [if_neg (show ¬ (false = true) by decide)] at H; exact H
    clear H
    have H := H1
    clear H1
    have H' := Aside0.mk H
    clear H
    go_wp2_with (first | ((with_reducible refine gate_dst (N := 23) rfl ?_); (try (refine gate_guard (by rfl) ?_; dsimp only)); refine Kd.R_lit (Kd.int .i64) _ 3 ?hg (N := 23) ?hd (xs := ([a1] : List Int)) (inner := [.int .i64 a1]) (ok := fun _ => True) (okp := fun _ => True) ?hr ?hp (fun _ hk => hk) trivial (Below.refl _ _) (Nat.le_refl _) (by simp) ?_; (case hd => rfl); (case hg => rfl); (case hr => first | (go_simp; done) | (go_simp; rfl)); (case hp => exact (Reps.one (show Kd.M (Kd.int .i64) _ _ _ a1 [.int .i64 a1] from rfl) (Reps.none _ _))); intro v169 w23 ho24 hb hg_ hnew_; clear hg_ hnew_; (first | rw [← Ny168.out] at ho24 | (simp only [Int.reduceToNat] at ho24; rw [← Ny168.out] at ho24)); have n0_ := Aside0.mk (Kd.V_elder' (by (with_reducible repeat (first | apply Kd.V_alloc | apply Kd.V_drewN | apply Kd.V_drew)); exact HO2.out) (Kd.R_base ho24) hb); have n1_ := Aside0.mk (Kd.R_lower (Kd.R_newM (M := fun k_ => (w.heap.size ≤ k_)) ho24 (below_size (by repeat (first | (with_reducible first | exact HB.out | apply below_alloc | apply pw_below_drewN | apply below_drew1 | refine below_set ?_ GE166.out) | exact HB.out))) (fun k_ h_ => h_)) (below_size (by repeat (first | (with_reducible first | exact HB.out | apply below_alloc | apply pw_below_drewN | apply below_drew1 | refine below_set ?_ GE166.out) | exact HB.out)))); have n2_ := Aside0.mk (blk_below (g := gb166) (o := .cells #[.slice A0_0 l0_0.length c0_0, .slice A0_1 l0_1.length c0_1] 25 (0, 0)) (by (with_reducible repeat (first | refine blk_drewN ?_ _ | refine blk_drew ?_ | refine blk_alloc ?_ _)); exact BK166.out) hb); have n3_ := Aside0.mk (below_step (by repeat (first | (with_reducible first | exact HB.out | apply below_alloc | apply pw_below_drewN | apply below_drew1 | refine below_set ?_ GE166.out) | exact HB.out)) hb); clear HO2; clear BK166; clear HB; have HO2 := n0_; have HO170 := n1_; have BK166 := n2_; have HB := n3_; clear n0_ n1_ n2_ n3_; clear hb ho24; obtain ⟨Ao25, co25, eo25⟩ := Kd.R_slice HO170.out; subst eo25) | ((with_reducible refine gate_callee (f := 83) rfl ?_); refine goesL_ (some 24) rfl rfl Try.func83 (by kernel_rfl) rfl #[.slice Ao25 y168.length co25] rfl (by (try simp only [List.map_toArray, List.map_cons, List.map_nil]); first | done | rfl | (simp only [List.length_drop, List.length_take]; rfl)) ?_; (with_reducible refine (dealing_numbers.calls _ _ y168 false _ ?side1 ?side2 A10.out).mono ?_); (case side1 => repeat (first | exact (Kd.R_reads' HO170.out).2.2 | (with_reducible refine Kd.C_alloc ?_ _) | (with_reducible refine Kd.C_drewN ?_ _) | (with_reducible refine Kd.C_drew ?_))); (case side2 => exact (Kd.R_reads' HO170.out).2.1); rintro e w' ⟨rfl, ⟨nd, rfl⟩⟩; refine ⟨_, rfl, ?_⟩))
    go_meet
    case rel => exact ⟨_, (true), (by first | rfl | (simp; done) | (simp [*]; done)), H', ⟨by first | omega | exact Nat.le_refl _⟩, ⟨by (with_reducible repeat (first | apply Kd.V_alloc | apply Kd.V_drewN | apply Kd.V_drew)); exact Kd.V_mono HO2.out (fun _ hk => ⟨hk.1.1, ⟨(by simp [Value.ownBlock]), ⟨(by simp [Value.ownBlock]), hk.1.2⟩⟩⟩)⟩, ⟨by first | exact Kd.R_nil _ _ _ _ _ | exact Kd.N_nil _ _ _ _ _ | exact Kd.V_nil _ _ _ _ _ | exact Kd.Q_nil _ _ _ _ _ | exact Kd.S_nil _ _ _ _ _⟩, ⟨by first | exact Kd.R_nil _ _ _ _ _ | exact Kd.N_nil _ _ _ _ _ | exact Kd.V_nil _ _ _ _ _ | exact Kd.Q_nil _ _ _ _ _ | exact Kd.S_nil _ _ _ _ _⟩, ⟨by (with_reducible repeat (first | refine blk_drewN ?_ _ | refine blk_drew ?_ | refine blk_alloc ?_ _)); exact BK166.out⟩, ⟨by repeat (first | (with_reducible first | exact HB.out | apply below_alloc | apply pw_below_drewN | apply below_drew1 | refine below_set ?_ GE166.out) | exact HB.out)⟩⟩
  case rest =>
   clear HC6
   try clear c1
   try clear c2
   try clear p2
   try clear c5
   try clear c5b0
   try clear c5b1
   try clear p6
   try clear c8
   try clear c11
   try clear c13
   try clear c22
   try clear hcz18_0
   try clear hcz18_1
   try clear hcz8_0
   try clear hcz8_1
   try clear hfz18_0
   try clear hfz18_1
   try clear hfz8_0
   try clear hfz8_1
   obtain ⟨kq, x38_5, rfl, HA, HJ5, HO_2, HO_6, HO_7, BK166, HB⟩ := hcut
   cases kq with
   | zero => exact absurd HA.out (by simp [dealing_Deal.j0])
   | succ kj5 =>
    have H := HA.out
    clear HA
    simp only [dealing_Deal.j0] at H
    by_cases c26 : x38_5 = true
    ·subst c26
     have H1 : (some (([] : List (S38)), ([] : List Int), 1)) = some (r1, r2, r3) := by rw [if_pos rfl] at H; exact H
     clear H
     have H := H1
     clear H1
     simp only [Option.some.injEq, Prod.mk.injEq] at H
     obtain ⟨rfl, rfl, rfl⟩ := H
     go_wp2
     go_ret3
     exact ⟨_, _, by first | rfl | (simp [errW_none, errW_some] <;> rfl) | (simp [*, errW_none, errW_some] <;> rfl), by first | exact Kd.R_nil _ _ _ _ _ | exact Kd.N_nil _ _ _ _ _ | exact Kd.V_nil _ _ _ _ _ | exact Kd.Q_nil _ _ _ _ _ | exact Kd.S_nil _ _ _ _ _, by first | exact Kd.R_nil _ _ _ _ _ | exact Kd.N_nil _ _ _ _ _ | exact Kd.V_nil _ _ _ _ _ | exact Kd.Q_nil _ _ _ _ _ | exact Kd.S_nil _ _ _ _ _, by repeat (first | (with_reducible first | exact HB.out | apply below_alloc | apply pw_below_drewN | apply below_drew1 | refine below_set ?_ GE166.out) | exact HB.out)⟩
    ·replace c26 := Bool.eq_false_iff.mpr c26
     subst c26
     have H1 : ((slices_Concat_int_int.f (([(([a1] : List Int)), l2] : List (List Int)))).bind fun t180 => (dealing_Deal.l0 kj5 ([] : List (S38)) ([] : List Int) t180 l0_0 (l0_0.length : Int) 0)) = some (r1, r2, r3) := by rw [if_neg (show ¬ (false = true) by decide)] at H; exact H
     clear H
     have H := H1
     clear H1
     obtain ⟨y174, hy174⟩ : ∃ y_ : List Int, y_ = (([a1] : List Int)) := ⟨_, rfl⟩
     replace H : ((slices_Concat_int_int.f (([y174, l2] : List (List Int)))).bind fun t180 => (dealing_Deal.l0 kj5 ([] : List (S38)) ([] : List Int) t180 l0_0 (l0_0.length : Int) 0)) = some (r1, r2, r3) := by first | (rw [hy174]; with_reducible exact H) | (have H2_ := (Option.bind_some _ _).symm.trans H; rw [hy174]; with_reducible exact H2_) | (have H2_ := (Option.bind_some _ _).symm.trans H; with_reducible exact H2_) | with_reducible exact H | (rw [hy174]; exact H) | exact H
     have Ny174 := Aside0.mk hy174
     clear hy174
     obtain ⟨y177, hy177⟩ : ∃ y_ : List (List Int), y_ = (([y174, l2] : List (List Int))) := ⟨_, rfl⟩
     replace H : ((slices_Concat_int_int.f y177).bind fun t180 => (dealing_Deal.l0 kj5 ([] : List (S38)) ([] : List Int) t180 l0_0 (l0_0.length : Int) 0)) = some (r1, r2, r3) := by first | (rw [hy177]; with_reducible exact H) | (have H2_ := (Option.bind_some _ _).symm.trans H; rw [hy177]; with_reducible exact H2_) | (have H2_ := (Option.bind_some _ _).symm.trans H; with_reducible exact H2_) | with_reducible exact H | (rw [hy177]; exact H) | exact H
     have Ny177 := Aside0.mk hy177
     clear hy177
     replace H := Option.bind_eq_some_iff.mp H
     obtain ⟨t180, A270, H⟩ := H
     replace H : (dealing_Deal.l0 kj5 ([] : List (S38)) ([] : List Int) t180 l0_0 (l0_0.length : Int) 0) = some (r1, r2, r3) := H
     have A27 := Aside0.mk A270
     clear A270
     have H' := Aside0.mk H
     clear H
     go_wp2_with (first | ((with_reducible refine gate_dst (N := 40) rfl ?_); (try (refine gate_guard (by rfl) ?_; dsimp only)); refine Kd.R_lit (Kd.int .i64) _ 3 ?hg (N := 40) ?hd (xs := ([a1] : List Int)) (inner := [.int .i64 a1]) (ok := fun _ => True) (okp := fun _ => True) ?hr ?hp (fun _ hk => hk) trivial (Below.refl _ _) (Nat.le_refl _) (by simp) ?_; (case hd => rfl); (case hg => rfl); (case hr => first | (go_simp; done) | (go_simp; rfl)); (case hp => exact (Reps.one (show Kd.M (Kd.int .i64) _ _ _ a1 [.int .i64 a1] from rfl) (Reps.none _ _))); intro v175 w28 ho29 hb hg_ hnew_; clear hg_ hnew_; (first | rw [← Ny174.out] at ho29 | (simp only [Int.reduceToNat] at ho29; rw [← Ny174.out] at ho29)); have n0_ := Aside0.mk (Kd.V_elder' (by (with_reducible repeat (first | apply Kd.V_alloc | apply Kd.V_drewN | apply Kd.V_drew)); exact HO_2.out) (Kd.R_base ho29) hb); have n1_ := Aside0.mk (Kd.R_below (by (with_reducible repeat (first | apply Kd.R_alloc | apply Kd.R_drewN | apply Kd.R_drew)); exact HO_6.out) hb); have n2_ := Aside0.mk (Kd.R_elder' (by (with_reducible repeat (first | apply Kd.R_alloc | apply Kd.R_drewN | apply Kd.R_drew)); exact HO_7.out) (Kd.R_base ho29) hb); have n3_ := Aside0.mk (Kd.R_lower (Kd.R_new' (Kd.R_newM (M := fun k_ => (w.heap.size ≤ k_)) ho29 (below_size (by repeat (first | (with_reducible first | exact HB.out | apply below_alloc | apply pw_below_drewN | apply below_drew1 | refine below_set ?_ GE166.out) | exact HB.out))) (fun k_ h_ => h_)) (Kd.R_lt (by (with_reducible repeat (first | apply Kd.R_alloc | apply Kd.R_drewN | apply Kd.R_drew)); exact HO_7.out))) (below_size (by repeat (first | (with_reducible first | exact HB.out | apply below_alloc | apply pw_below_drewN | apply below_drew1 | refine below_set ?_ GE166.out) | exact HB.out)))); have n4_ := Aside0.mk (blk_below (g := gb166) (o := .cells #[.slice A0_0 l0_0.length c0_0, .slice A0_1 l0_1.length c0_1] 25 (0, 0)) (by (with_reducible repeat (first | refine blk_drewN ?_ _ | refine blk_drew ?_ | refine blk_alloc ?_ _)); exact BK166.out) hb); have n5_ := Aside0.mk (below_step (by repeat (first | (with_reducible first | exact HB.out | apply below_alloc | apply pw_below_drewN | apply below_drew1 | refine below_set ?_ GE166.out) | exact HB.out)) hb); clear HO_2; clear HO_6; clear HO_7; clear BK166; clear HB; have HO_2 := n0_; have HO_6 := n1_; have HO_7 := n2_; have HO176 := n3_; have BK166 := n4_; have HB := n5_; clear n0_ n1_ n2_ n3_ n4_ n5_; clear hb ho29; obtain ⟨Ao30, co30, eo30⟩ := Kd.R_slice HO176.out; subst eo30) | ((with_reducible refine gate_dst (N := 42) rfl ?_); (try (refine gate_guard (by rfl) ?_; dsimp only)); refine Kd.N_lit (Kd.slice 3 (Kd.int .i64)) _ 23 ?hg (N' := 42) ?hd (xs := ([y174, l2] : List (List Int))) (inner := [.slice Ao30 y174.length co30, .slice A2 l2.length c2]) (ok := (fun k_ => (P2_ k_ ∨ w.heap.size ≤ k_) ∧ some k_ ≠ (.slice none 0 0 : Value).ownBlock ∧ some k_ ≠ (.slice none 0 0 : Value).ownBlock ∧ k_ ≠ gb166)) (okp := (fun k_ => (P2_ k_ ∨ w.heap.size ≤ k_) ∧ some k_ ≠ (.slice none 0 0 : Value).ownBlock ∧ some k_ ≠ (.slice none 0 0 : Value).ownBlock ∧ k_ ≠ gb166)) ?hr ?hp (fun _ hk => hk) ((show ∀ k_, w28.heap.size ≤ k_ → (fun k_ => (P2_ k_ ∨ w.heap.size ≤ k_) ∧ some k_ ≠ (.slice none 0 0 : Value).ownBlock ∧ some k_ ≠ (.slice none 0 0 : Value).ownBlock ∧ k_ ≠ gb166) k_ from fun k_ hk => ⟨(.inr (Nat.le_trans (below_size (by repeat (first | (with_reducible first | exact HB.out | apply below_alloc | apply pw_below_drewN | apply below_drew1 | refine below_set ?_ GE166.out) | exact HB.out))) hk)), Kd.fresh' (Kd.R_lt (by (with_reducible repeat (first | apply Kd.R_alloc | apply Kd.R_drewN | apply Kd.R_drew)); exact HO_6.out)) k_ hk, Kd.fresh' (Kd.R_lt (by (with_reducible repeat (first | apply Kd.R_alloc | apply Kd.R_drewN | apply Kd.R_drew)); exact HO_7.out)) k_ hk, Kd.freshB (g := gb166) (o := .cells #[.slice A0_0 l0_0.length c0_0, .slice A0_1 l0_1.length c0_1] 25 (0, 0)) (by (with_reducible repeat (first | refine blk_drewN ?_ _ | refine blk_drew ?_ | refine blk_alloc ?_ _)); exact BK166.out) k_ hk⟩) _ (Nat.le_refl _)) (Below.refl _ _) (Nat.le_refl _) (by simp) ?_; (case hd => rfl); (case hg => rfl); (case hr => first | (go_simp; done) | (go_simp; rfl)); (case hp => exact (Reps.one (show Kd.FK (Kd.slice 3 (Kd.int .i64)) _ _ y174 [.slice Ao30 y174.length co30] from (Kd.FK_slice_mk (Kd.R_reads' (Kd.R_mono (ok' := (fun k_ => (P2_ k_ ∨ w.heap.size ≤ k_) ∧ some k_ ≠ (.slice none 0 0 : Value).ownBlock ∧ some k_ ≠ (.slice none 0 0 : Value).ownBlock ∧ k_ ≠ gb166)) (Kd.R_types (Kd.R_apart' (HO176.out) (Kd.R_typed HO_6.out) (by decide)) BK166.out (by decide)) (fun k_ hk => ⟨(.inr (hk.1.1.1.1)), ⟨hk.1.2, ⟨hk.1.1.2, hk.2⟩⟩⟩))).2.1 (Kd.R_F (Kd.R_mono (ok' := (fun k_ => (P2_ k_ ∨ w.heap.size ≤ k_) ∧ some k_ ≠ (.slice none 0 0 : Value).ownBlock ∧ some k_ ≠ (.slice none 0 0 : Value).ownBlock ∧ k_ ≠ gb166)) (Kd.R_types (Kd.R_apart' (HO176.out) (Kd.R_typed HO_6.out) (by decide)) BK166.out (by decide)) (fun k_ hk => ⟨(.inr (hk.1.1.1.1)), ⟨hk.1.2, ⟨hk.1.1.2, hk.2⟩⟩⟩))))) (Reps.one (show Kd.FK (Kd.slice 3 (Kd.int .i64)) _ _ l2 [.slice A2 l2.length c2] from (Kd.FK_slice_mk (Kd.V_reads' (Kd.V_mono (ok' := (fun k_ => (P2_ k_ ∨ w.heap.size ≤ k_) ∧ some k_ ≠ (.slice none 0 0 : Value).ownBlock ∧ some k_ ≠ (.slice none 0 0 : Value).ownBlock ∧ k_ ≠ gb166)) (HO_2.out) (fun k_ hk => ⟨hk.1.1, ⟨hk.1.2.1, ⟨hk.1.2.2.1, hk.1.2.2.2⟩⟩⟩))).2.1 (Kd.V_F (Kd.V_mono (ok' := (fun k_ => (P2_ k_ ∨ w.heap.size ≤ k_) ∧ some k_ ≠ (.slice none 0 0 : Value).ownBlock ∧ some k_ ≠ (.slice none 0 0 : Value).ownBlock ∧ k_ ≠ gb166)) (HO_2.out) (fun k_ hk => ⟨hk.1.1, ⟨hk.1.2.1, ⟨hk.1.2.2.1, hk.1.2.2.2⟩⟩⟩))))) (Reps.none _ _)))); intro v178 w31 ho32 hb hg_ hnew_; clear hg_ hnew_; (first | rw [← Ny177.out] at ho32 | (simp only [Int.reduceToNat] at ho32; rw [← Ny177.out] at ho32)); have n0_ := Aside0.mk (Kd.V_elder' (by (with_reducible repeat (first | apply Kd.V_alloc | apply Kd.V_drewN | apply Kd.V_drew)); exact HO_2.out) (Kd.N_base ho32) hb); have n1_ := Aside0.mk (Kd.R_below (by (with_reducible repeat (first | apply Kd.R_alloc | apply Kd.R_drewN | apply Kd.R_drew)); exact HO_6.out) hb); have n2_ := Aside0.mk (Kd.R_below (by (with_reducible repeat (first | apply Kd.R_alloc | apply Kd.R_drewN | apply Kd.R_drew)); exact HO_7.out) hb); have n3_ := Aside0.mk (Kd.N_lower ho32 (below_size (by repeat (first | (with_reducible first | exact HB.out | apply below_alloc | apply pw_below_drewN | apply below_drew1 | refine below_set ?_ GE166.out) | exact HB.out)))); have n4_ := Aside0.mk (blk_below (g := gb166) (o := .cells #[.slice A0_0 l0_0.length c0_0, .slice A0_1 l0_1.length c0_1] 25 (0, 0)) (by (with_reducible repeat (first | refine blk_drewN ?_ _ | refine blk_drew ?_ | refine blk_alloc ?_ _)); exact BK166.out) hb); have n5_ := Aside0.mk (below_step (by repeat (first | (with_reducible first | exact HB.out | apply below_alloc | apply pw_below_drewN | apply below_drew1 | refine below_set ?_ GE166.out) | exact HB.out)) hb); clear HO_2; clear HO_6; clear HO_7; clear BK166; clear HB; clear HO176; have HO_2 := n0_; have HO_6 := n1_; have HO_7 := n2_; have HO179 := n3_; have BK166 := n4_; have HB := n5_; clear n0_ n1_ n2_ n3_ n4_ n5_; clear hb ho32; obtain ⟨Ao33, co33, eo33⟩ := Kd.N_slice HO179.out; subst eo33) | ((with_reducible refine gate_callee (f := 85) rfl ?_); refine goesL_ (some 43) rfl rfl Try.func85 (by kernel_rfl) rfl #[.slice Ao33 y177.length co33] rfl (by (try simp only [List.map_toArray, List.map_cons, List.map_nil]); first | done | rfl | (simp only [List.length_drop, List.length_take]; rfl)) ?_; (with_reducible refine (slices_Concat_int_int.calls _ _ y177 t180 _ ?side1 ?side2 A27.out).mono ?_); (case side1 => repeat (first | exact (Kd.N_reads' HO179.out).2.2 | (with_reducible refine Kd.C_alloc ?_ _) | (with_reducible refine Kd.C_drewN ?_ _) | (with_reducible refine Kd.C_drew ?_))); (case side2 => exact (Kd.N_reads' HO179.out).2.1); rintro e w34 ⟨v181, rfl, ho0, hb⟩; refine ⟨_, rfl, ?_⟩; have n0_ := Aside0.mk (Kd.V_elder' (by (with_reducible repeat (first | apply Kd.V_alloc | apply Kd.V_drewN | apply Kd.V_drew)); exact HO_2.out) (Kd.R_base ho0) hb); have n1_ := Aside0.mk (Kd.R_below (by (with_reducible repeat (first | apply Kd.R_alloc | apply Kd.R_drewN | apply Kd.R_drew)); exact HO_6.out) hb); have n2_ := Aside0.mk (Kd.R_elder' (by (with_reducible repeat (first | apply Kd.R_alloc | apply Kd.R_drewN | apply Kd.R_drew)); exact HO_7.out) (Kd.R_base ho0) hb); have n3_ := Aside0.mk (Kd.N_elder' (by (with_reducible repeat (first | apply Kd.N_alloc | apply Kd.N_drewN | apply Kd.N_drew)); exact HO179.out) (Kd.R_base ho0) hb); have n4_ := Aside0.mk (Kd.R_lower (Kd.R_new' (Kd.R_newM (M := fun k_ => (w.heap.size ≤ k_)) ho0 (below_size (by repeat (first | (with_reducible first | exact HB.out | apply below_alloc | apply pw_below_drewN | apply below_drew1 | refine below_set ?_ GE166.out) | exact HB.out))) (fun k_ h_ => h_)) (Kd.R_lt (by (with_reducible repeat (first | apply Kd.R_alloc | apply Kd.R_drewN | apply Kd.R_drew)); exact HO_7.out))) (below_size (by repeat (first | (with_reducible first | exact HB.out | apply below_alloc | apply pw_below_drewN | apply below_drew1 | refine below_set ?_ GE166.out) | exact HB.out)))); have n5_ := Aside0.mk (blk_below (g := gb166) (o := .cells #[.slice A0_0 l0_0.length c0_0, .slice A0_1 l0_1.length c0_1] 25 (0, 0)) (by (with_reducible repeat (first | refine blk_drewN ?_ _ | refine blk_drew ?_ | refine blk_alloc ?_ _)); exact BK166.out) hb); have n6_ := Aside0.mk (below_step (by repeat (first | (with_reducible first | exact HB.out | apply below_alloc | apply pw_below_drewN | apply below_drew1 | refine below_set ?_ GE166.out) | exact HB.out)) hb); clear HO_2; clear HO_6; clear HO_7; clear HO179; clear BK166; clear HB; have HO_2 := n0_; have HO_6 := n1_; have HO_7 := n2_; have HO179 := n3_; have HO182 := n4_; have BK166 := n5_; have HB := n6_; clear n0_ n1_ n2_ n3_ n4_ n5_ n6_; (try clear hb); (try clear hb2); (try clear hk); (try clear hi); (try clear ho0); have hcz35_0 : w34.cell? ⟨gb166, 0, none⟩ = some (.slice A0_0 l0_0.length c0_0) := (blk_cell BK166.out 0).trans rfl; have hcz35_1 : w34.cell? ⟨gb166, 1, none⟩ = some (.slice A0_1 l0_1.length c0_1) := (blk_cell BK166.out 1).trans rfl; have hfz35_0 := blk_frozen BK166.out 0; have hfz35_1 := blk_frozen BK166.out 1))
     go_loopg [6, 47] kj5 (fun kq v6 v47 w' => ∃ (x6_2 : List (S38)) (x47_2 : Int), v47 = .int .i64 x47_2 ∧ Aside0 (dealing_Deal.l0 kq x6_2 ([] : List Int) t180 l0_0 (l0_0.length : Int) x47_2 = some (r1, r2, r3)) ∧ Aside0 (kq ≤ kj5) ∧ Aside0 (Kd.R k38 38 w' w.heap.size (fun k_ => (w.heap.size ≤ k_)) v6 x6_2) ∧ Aside0 (Kd.R (Kd.int .i64) 3 w' w.heap.size (fun k_ => (w.heap.size ≤ k_) ∧ some k_ ≠ (v181 : Value).ownBlock) (.slice none 0 0) ([] : List Int)) ∧ Aside0 (Kd.R (Kd.int .i64) 3 w' w.heap.size (fun k_ => (w.heap.size ≤ k_) ∧ some k_ ≠ ((.slice none 0 0) : Value).ownBlock) v181 t180) ∧ Aside0 (w'.heap[gb166]? = some (.cells #[(.slice A0_0 l0_0.length c0_0), (.slice A0_1 l0_1.length c0_1)] 25 (0, 0))) ∧ Aside0 (Below w.heap.size w w'))
     case atStart => exact ⟨(([] : List (S38))), (0), (by first | rfl | (simp; done) | (simp [*]; done)), H', ⟨Nat.le_refl _⟩, ⟨by (with_reducible repeat (first | apply Kd.R_alloc | apply Kd.R_drewN | apply Kd.R_drew)); exact HO_6.out⟩, ⟨by (with_reducible repeat (first | apply Kd.R_alloc | apply Kd.R_drewN | apply Kd.R_drew)); exact Kd.R_mono HO_7.out (fun _ hk => ⟨hk.1.1, hk.2⟩)⟩, ⟨by (with_reducible repeat (first | apply Kd.R_alloc | apply Kd.R_drewN | apply Kd.R_drew)); exact Kd.R_mono HO182.out (fun _ hk => ⟨hk.1.1, hk.2⟩)⟩, ⟨by (with_reducible repeat (first | refine blk_drewN ?_ _ | refine blk_drew ?_ | refine blk_alloc ?_ _)); exact BK166.out⟩, ⟨by repeat (first | (with_reducible first | exact HB.out | apply below_alloc | apply pw_below_drewN | apply below_drew1 | refine below_set ?_ GE166.out) | exact HB.out)⟩⟩
     case round =>
      clear H'
      try clear c1
      try clear c2
      try clear p2
      try clear c5
      try clear c5b0
      try clear c5b1
      try clear p6
      try clear c8
      try clear c11
      try clear c13
      try clear c22
      try clear c26
      try clear hcz18_0
      try clear hcz18_1
      try clear hcz35_0
      try clear hcz35_1
      try clear hcz8_0
      try clear hcz8_1
      try clear hfz18_0
      try clear hfz18_1
      try clear hfz35_0
      try clear hfz35_1
      try clear hfz8_0
      try clear hfz8_1
      try clear p2
      try clear p6
      obtain ⟨x6_2, x47_2, rfl, HA, HK2, HO_6, HO_7, HO_10, BK166, HB⟩ := hrel
      cases gk with
      | zero => exact absurd HA.out (by simp [dealing_Deal.l0])
      | succ k2 =>
       have H := HA.out
       clear HA
       simp only [dealing_Deal.l0] at H
       by_cases c36 : x47_2 < (l0_0.length : Int)
       ·rw [if_pos c36] at H
        have c36b0 : decide (x47_2 < (l0_0.length : Int)) = true := decide_eq_true c36
        clear c36
        by_cases c37 : 0 ≤ x47_2
        ·rw [if_pos c37] at H
         have c37b0 : decide (0 ≤ x47_2) = true := decide_eq_true c37
         clear c37
         by_cases c38 : x47_2 < (l0_0.length : Int)
         ·rw [if_pos c38] at H
          have c38b0 : decide (x47_2 < (l0_0.length : Int)) = true := decide_eq_true c38
          clear c38
          replace H := Option.bind_eq_some_iff.mp H
          obtain ⟨t184, A390, H⟩ := H
          replace H : (if x6_2.length < 8796093022208 then (dealing_Deal.l0 k2 (x6_2 ++ [(⟨x47_2, t184⟩ : S38)]) ([] : List Int) t180 l0_0 (l0_0.length : Int) (wrap64 (x47_2 + 1))) else (none)) = some (r1, r2, r3) := H
          have A39 := Aside0.mk A390
          clear A390
          by_cases c40 : x6_2.length < 8796093022208
          ·rw [if_pos c40] at H
           have LMc40 := Aside0.mk c40
           clear c40
           obtain ⟨y185, hy185⟩ : ∃ y_ : List (S38), y_ = (x6_2 ++ [(⟨x47_2, t184⟩ : S38)]) := ⟨_, rfl⟩
           replace H : (dealing_Deal.l0 k2 y185 ([] : List Int) t180 l0_0 (l0_0.length : Int) (wrap64 (x47_2 + 1))) = some (r1, r2, r3) := by first | (rw [hy185]; with_reducible exact H) | (have H2_ := (Option.bind_some _ _).symm.trans H; rw [hy185]; with_reducible exact H2_) | (have H2_ := (Option.bind_some _ _).symm.trans H; with_reducible exact H2_) | with_reducible exact H | (rw [hy185]; exact H) | exact H
           have Ny185 := Aside0.mk hy185
           clear hy185
           have H' := Aside0.mk H
           clear H
           have p183 : 0 ≤ (x47_2 : Int) := of_decide_eq_true (by first | (with_reducible assumption) | assumption)
           have q183 : x47_2 < (l0_0.length : Int) := of_decide_eq_true (by first | (with_reducible assumption) | assumption)
           obtain ⟨ad183, A183_0, c183_0, e183, hx183_0, hl183_0, hi183_0⟩ := at_L1 HR0_0.out x47_2 p183 q183
           cases e183
           replace hx183_0 := (HB.out.cell (World.block_lt_of_cell? w _ hx183_0)).trans hx183_0
           have HR183_0 := Aside0.mk hi183_0
           have HC183_0 := Aside0.mk hl183_0
           clear hi183_0 hl183_0
           replace p183 := eq_true p183
           replace q183 := eq_true q183
           obtain ⟨Ao41, co41, eo41⟩ := Kd.R_slice HO_10.out
           subst eo41
           go_wp2_with (first | ((with_reducible refine gate_callee (f := 86) rfl ?_); refine goesL_ (some 56) rfl rfl Try.func86 (by kernel_rfl) rfl #[.slice A183_0 (rd_L1 l0_0 x47_2).length c183_0, .slice Ao41 t180.length co41] rfl (by (try simp only [List.map_toArray, List.map_cons, List.map_nil]); first | done | rfl | (simp only [List.length_drop, List.length_take]; rfl)) ?_; (with_reducible refine (dealing_times.calls _ _ (rd_L1 l0_0 x47_2) _ _ t180 t184 _ ?side1 ?side2 ?side3 ?side4 A39.out).mono ?_); (case side1 => repeat (first | exact (Kd.C_below HR183_0.out HB.out) | (with_reducible refine Kd.C_alloc ?_ _) | (with_reducible refine Kd.C_drewN ?_ _) | (with_reducible refine Kd.C_drew ?_))); (case side2 => exact HC183_0.out); (case side3 => repeat (first | exact (Kd.R_reads' HO_10.out).2.2 | (with_reducible refine Kd.C_alloc ?_ _) | (with_reducible refine Kd.C_drewN ?_ _) | (with_reducible refine Kd.C_drew ?_))); (case side4 => exact (Kd.R_reads' HO_10.out).2.1); rintro e w42 ⟨rfl, hb⟩; refine ⟨_, rfl, ?_⟩; have n0_ := Aside0.mk (Kd.R_below (by (with_reducible repeat (first | apply Kd.R_alloc | apply Kd.R_drewN | apply Kd.R_drew)); exact HO_6.out) hb); have n1_ := Aside0.mk (Kd.R_below (by (with_reducible repeat (first | apply Kd.R_alloc | apply Kd.R_drewN | apply Kd.R_drew)); exact HO_7.out) hb); have n2_ := Aside0.mk (Kd.R_below (by (with_reducible repeat (first | apply Kd.R_alloc | apply Kd.R_drewN | apply Kd.R_drew)); exact HO_10.out) hb); have n3_ := Aside0.mk (blk_below (g := gb166) (o := .cells #[.slice (some ad183) l0_0.length c0_0, .slice A0_1 l0_1.length c0_1] 25 (0, 0)) (by (with_reducible repeat (first | refine blk_drewN ?_ _ | refine blk_drew ?_ | refine blk_alloc ?_ _)); exact BK166.out) hb); have n4_ := Aside0.mk (below_step (by repeat (first | (with_reducible first | exact HB.out | apply below_alloc | apply pw_below_drewN | apply below_drew1 | refine below_set ?_ GE166.out) | exact HB.out)) hb); clear HO_6; clear HO_7; clear HO_10; clear BK166; clear HB; have HO_6 := n0_; have HO_7 := n1_; have HO_10 := n2_; have BK166 := n3_; have HB := n4_; clear n0_ n1_ n2_ n3_ n4_; (try clear hb); (try clear hb2); (try clear hk); (try clear hi)) | ((with_reducible refine gate_builtin (b := .append) (xs := #[.tmp 52, .tmp 58]) rfl ?_); (try (refine gate_guard (by rfl) ?_; dsimp only)); at_builtin; refine Kd.R_append k38 (w0 := w) w.heap.size rfl (.tmp 52) (.tmp 58) 26 38 (.agg #[(.int .i64 0), (.int .i64 0)]) 16 rfl Try.underlying26 info38 rfl (by decide) (by omega) u6 x6_2 (⟨x47_2, t184⟩ : S38) [.int .i64 x47_2, .int .i64 t184] (fun k_ => (w.heap.size ≤ k_)) (fun _ => False) rfl rfl ?aP (fun _ hk => hk.elim) ?aF ?aO ?aB ?aS ?aL ?_; (case aP => exact k38_mkM _ _ _ (⟨x47_2, t184⟩ : S38)); (case aB => exact (by repeat (first | (with_reducible first | exact HB.out | apply below_alloc | apply pw_below_drewN | apply below_drew1 | refine below_set ?_ GE166.out) | exact HB.out))); (case aF => exact (fun k_ hk => (Nat.le_trans (below_size (by repeat (first | (with_reducible first | exact HB.out | apply below_alloc | apply pw_below_drewN | apply below_drew1 | refine below_set ?_ GE166.out) | exact HB.out))) hk))); (case aO => exact (by (with_reducible repeat (first | apply Kd.R_alloc | apply Kd.R_drewN | apply Kd.R_drew)); exact HO_6.out)); (case aS => exact (below_size (by repeat (first | (with_reducible first | exact HB.out | apply below_alloc | apply pw_below_drewN | apply below_drew1 | refine below_set ?_ GE166.out) | exact HB.out)))); (case aL => have := LMc40.out; omega); intro v186 w43 ho hb hg hat; rw [← Ny185.out] at ho; have n0_ := Aside0.mk (Kd.R_over' (by (with_reducible repeat (first | apply Kd.R_alloc | apply Kd.R_drewN | apply Kd.R_drew)); exact HO_7.out) (Kd.R_typed (by (with_reducible repeat (first | apply Kd.R_alloc | apply Kd.R_drewN | apply Kd.R_drew)); exact HO_6.out)) (by decide) hg); have n1_ := Aside0.mk (Kd.R_over' (by (with_reducible repeat (first | apply Kd.R_alloc | apply Kd.R_drewN | apply Kd.R_drew)); exact HO_10.out) (Kd.R_typed (by (with_reducible repeat (first | apply Kd.R_alloc | apply Kd.R_drewN | apply Kd.R_drew)); exact HO_6.out)) (by decide) hg); have n2_ := Aside0.mk (blk_grown (g := gb166) (o := .cells #[.slice (some ad183) l0_0.length c0_0, .slice A0_1 l0_1.length c0_1] 25 (0, 0)) (by (with_reducible repeat (first | refine blk_drewN ?_ _ | refine blk_drew ?_ | refine blk_alloc ?_ _)); exact BK166.out) hg (Kd.R_ne HO_6.out BK166.out (by decide))); have n3_ := Aside0.mk (hb); have n4_ := Aside0.mk (ho); clear HO_7; clear HO_10; clear BK166; clear HB; clear HO_6; have HO_7 := n0_; have HO_10 := n1_; have BK166 := n2_; have HB := n3_; have HO187 := n4_; clear n0_ n1_ n2_ n3_ n4_; clear ho hb hg hat))
           go_roundg k2
           case measure => have := HJ5.out; have := HK2.out; omega
           case rel => exact ⟨(y185), (wrap64 (x47_2 + 1)), (by first | rfl | (simp; done) | (simp [*]; done)), H', ⟨by have := HJ5.out; have := HK2.out; omega⟩, ⟨by (with_reducible repeat (first | apply Kd.R_alloc | apply Kd.R_drewN | apply Kd.R_drew)); exact HO187.out⟩, ⟨by (with_reducible repeat (first | apply Kd.R_alloc | apply Kd.R_drewN | apply Kd.R_drew)); exact HO_7.out⟩, ⟨by (with_reducible repeat (first | apply Kd.R_alloc | apply Kd.R_drewN | apply Kd.R_drew)); exact HO_10.out⟩, ⟨by (with_reducible repeat (first | refine blk_drewN ?_ _ | refine blk_drew ?_ | refine blk_alloc ?_ _)); exact BK166.out⟩, ⟨by repeat (first | (with_reducible first | exact HB.out | apply below_alloc | apply pw_below_drewN | apply below_drew1 | refine below_set ?_ GE166.out) | exact HB.out)⟩⟩
          ·rw [if_neg c40] at H
           exact absurd H (by simp)
         ·rw [if_neg c38] at H
          exact absurd H (by simp)
        ·rw [if_neg c37] at H
         exact absurd H (by simp)
       ·rw [if_neg c36] at H
        have c36b0 : decide (x47_2 < (l0_0.length : Int)) = false := decide_eq_false c36
        clear c36
        have H' := Aside0.mk H
        clear H
        obtain ⟨Ao44, co44, eo44⟩ := Kd.R_slice HO_10.out
        subst eo44
        go_wp2
        go_loopg [6, 7, 63] k2 (fun kq v6 v7 v63 w' => ∃ (x6_3 : List (S38)) (x7_3 : List Int) (x63_3 : Int), v63 = .int .i64 x63_3 ∧ Aside0 (dealing_Deal.l1 kq x6_3 x7_3 t180 (t180.length : Int) x63_3 = some (r1, r2, r3)) ∧ Aside0 (kq ≤ k2) ∧ Aside0 (Kd.R k38 38 w' w.heap.size (fun k_ => (w.heap.size ≤ k_)) v6 x6_3) ∧ Aside0 (Kd.R (Kd.int .i64) 3 w' w.heap.size (fun k_ => (w.heap.size ≤ k_) ∧ some k_ ≠ ((.slice Ao44 t180.length co44) : Value).ownBlock) v7 x7_3) ∧ Aside0 (Kd.R (Kd.int .i64) 3 w' w.heap.size (fun k_ => (w.heap.size ≤ k_) ∧ some k_ ≠ (v7 : Value).ownBlock) (.slice Ao44 t180.length co44) t180) ∧ Aside0 (w'.heap[gb166]? = some (.cells #[(.slice A0_0 l0_0.length c0_0), (.slice A0_1 l0_1.length c0_1)] 25 (0, 0))) ∧ Aside0 (Below w.heap.size w w'))
        case atStart => exact ⟨(x6_2), (([] : List Int)), (0), (by first | rfl | (simp; done) | (simp [*]; done)), H', ⟨Nat.le_refl _⟩, ⟨by (with_reducible repeat (first | apply Kd.R_alloc | apply Kd.R_drewN | apply Kd.R_drew)); exact HO_6.out⟩, ⟨by (with_reducible repeat (first | apply Kd.R_alloc | apply Kd.R_drewN | apply Kd.R_drew)); exact HO_7.out⟩, ⟨by (with_reducible repeat (first | apply Kd.R_alloc | apply Kd.R_drewN | apply Kd.R_drew)); exact HO_10.out⟩, ⟨by (with_reducible repeat (first | refine blk_drewN ?_ _ | refine blk_drew ?_ | refine blk_alloc ?_ _)); exact BK166.out⟩, ⟨by repeat (first | (with_reducible first | exact HB.out | apply below_alloc | apply pw_below_drewN | apply below_drew1 | refine below_set ?_ GE166.out) | exact HB.out)⟩⟩
        case round =>
         clear H'
         try clear c1
         try clear p1
         try clear q1
         try clear hx1
         try clear c2
         try clear p2
         try clear c3
         try clear c4
         try clear c5
         try clear c5b0
         try clear c5b1
         try clear p6
         try clear c8
         try clear c11
         try clear c13
         try clear c18
         try clear p18
         try clear q18
         try clear hx18
         try clear c22
         try clear c26
         try clear c36
         try clear c36b0
         try clear c37
         try clear c37b0
         try clear c38
         try clear c38b0
         try clear c40
         try clear hcz18_0
         try clear hcz18_1
         try clear hcz35_0
         try clear hcz35_1
         try clear hcz8_0
         try clear hcz8_1
         try clear hfz18_0
         try clear hfz18_1
         try clear hfz35_0
         try clear hfz35_1
         try clear hfz8_0
         try clear hfz8_1
         try clear hx183_0
         try clear p183
         try clear p2
         try clear p6
         try clear q183
         obtain ⟨x6_3, x7_3, x63_3, rfl, HA, HK3, HO_6, HO_7, HO_61, BK166, HB⟩ := hrel
         cases gk with
         | zero => exact absurd HA.out (by simp [dealing_Deal.l1])
         | succ k3 =>
          have H := HA.out
          clear HA
          simp only [dealing_Deal.l1] at H
          by_cases c45 : x63_3 < (t180.length : Int)
          ·rw [if_pos c45] at H
           have c45b0 : decide (x63_3 < (t180.length : Int)) = true := decide_eq_true c45
           clear c45
           by_cases c46 : 0 ≤ x63_3
           ·rw [if_pos c46] at H
            have c46b0 : decide (0 ≤ x63_3) = true := decide_eq_true c46
            clear c46
            by_cases c47 : x63_3 < (t180.length : Int)
            ·rw [if_pos c47] at H
             have c47b0 : decide (x63_3 < (t180.length : Int)) = true := decide_eq_true c47
             clear c47
             replace H := Option.bind_eq_some_iff.mp H
             obtain ⟨⟨t189, t190⟩, A480, H⟩ := H
             replace H : (if t190 = 0 then (if x7_3.length < 17592186044416 then (dealing_Deal.l1 k3 x6_3 (x7_3 ++ [t189]) t180 (t180.length : Int) (wrap64 (x63_3 + 1))) else (none)) else (some (([] : List (S38)), ([] : List Int), t190))) = some (r1, r2, r3) := H
             have A48 := Aside0.mk A480
             clear A480
             by_cases c49 : t190 = 0
             ·rw [if_pos c49] at H
              have c49b0 : (t190 == 0) = true := beq_iff_eq.mpr c49
              have c49b1 : (t190 != 0) = false := bne_eq_false_iff_eq.mpr c49
              clear c49
              by_cases c50 : x7_3.length < 17592186044416
              ·rw [if_pos c50] at H
               have LMc50 := Aside0.mk c50
               clear c50
               obtain ⟨y191, hy191⟩ : ∃ y_ : List Int, y_ = (x7_3 ++ [t189]) := ⟨_, rfl⟩
               replace H : (dealing_Deal.l1 k3 x6_3 y191 t180 (t180.length : Int) (wrap64 (x63_3 + 1))) = some (r1, r2, r3) := by first | (rw [hy191]; with_reducible exact H) | (have H2_ := (Option.bind_some _ _).symm.trans H; rw [hy191]; with_reducible exact H2_) | (have H2_ := (Option.bind_some _ _).symm.trans H; with_reducible exact H2_) | with_reducible exact H | (rw [hy191]; exact H) | exact H
               have Ny191 := Aside0.mk hy191
               clear hy191
               have H' := Aside0.mk H
               clear H
               have p188 : 0 ≤ (x63_3 : Int) := of_decide_eq_true (by first | (with_reducible assumption) | assumption)
               have q188 : x63_3 < (t180.length : Int) := of_decide_eq_true (by first | (with_reducible assumption) | assumption)
               obtain ⟨ad188, e188, hx188_0⟩ := Kd.at_int (Kd.R_reads' HO_61.out).2.2 x63_3 p188 q188
               cases e188
               replace p188 := eq_true p188
               replace q188 := eq_true q188
               go_wp2_with (first | ((with_reducible refine gate_callee (f := 34) rfl ?_); refine goesL_ (some 69) rfl rfl Try.func34 (by kernel_rfl) rfl #[.int .i64 4, .int .i64 (rd t180 x63_3)] rfl (by (try simp only [List.map_toArray, List.map_cons, List.map_nil]); first | done | rfl | (simp only [List.length_drop, List.length_take]; rfl)) ?_; (with_reducible refine (group_Pow.calls 4 (rd t180 x63_3) t189 t190 _ A48.out).mono ?_); rintro e w51 ⟨rfl, hb⟩; refine ⟨_, rfl, ?_⟩; have n0_ := Aside0.mk (Kd.R_below (by (with_reducible repeat (first | apply Kd.R_alloc | apply Kd.R_drewN | apply Kd.R_drew)); exact HO_6.out) hb); have n1_ := Aside0.mk (Kd.R_below (by (with_reducible repeat (first | apply Kd.R_alloc | apply Kd.R_drewN | apply Kd.R_drew)); exact HO_7.out) hb); have n2_ := Aside0.mk (Kd.R_below (by (with_reducible repeat (first | apply Kd.R_alloc | apply Kd.R_drewN | apply Kd.R_drew)); exact HO_61.out) hb); have n3_ := Aside0.mk (blk_below (g := gb166) (o := .cells #[.slice A0_0 l0_0.length c0_0, .slice A0_1 l0_1.length c0_1] 25 (0, 0)) (by (with_reducible repeat (first | refine blk_drewN ?_ _ | refine blk_drew ?_ | refine blk_alloc ?_ _)); exact BK166.out) hb); have n4_ := Aside0.mk (below_step (by repeat (first | (with_reducible first | exact HB.out | apply below_alloc | apply pw_below_drewN | apply below_drew1 | refine below_set ?_ GE166.out) | exact HB.out)) hb); clear HO_6; clear HO_7; clear HO_61; clear BK166; clear HB; have HO_6 := n0_; have HO_7 := n1_; have HO_61 := n2_; have BK166 := n3_; have HB := n4_; clear n0_ n1_ n2_ n3_ n4_; (try clear hb); (try clear hb2); (try clear hk); (try clear hi)) | ((with_reducible refine gate_builtin (b := .append) (xs := #[.tmp 75, .tmp 77]) rfl ?_); (try (refine gate_guard (by rfl) ?_; dsimp only)); at_builtin; refine Kd.R_append (Kd.int .i64) (w0 := w) w.heap.size rfl (.tmp 75) (.tmp 77) 23 3 (.int .i64 0) 8 rfl Try.underlying23 info3 rfl (by decide) (by omega) u7 x7_3 t189 [.int .i64 t189] (fun k_ => (w.heap.size ≤ k_) ∧ some k_ ≠ (.slice (some ad188) t180.length co44 : Value).ownBlock) (fun _ => False) rfl rfl ?aP (fun _ hk => hk.elim) ?aF ?aO ?aB ?aS ?aL ?_; (case aP => exact rfl); (case aB => exact (by repeat (first | (with_reducible first | exact HB.out | apply below_alloc | apply pw_below_drewN | apply below_drew1 | refine below_set ?_ GE166.out) | exact HB.out))); (case aF => exact (fun k_ hk => ⟨(Nat.le_trans (below_size (by repeat (first | (with_reducible first | exact HB.out | apply below_alloc | apply pw_below_drewN | apply below_drew1 | refine below_set ?_ GE166.out) | exact HB.out))) hk), Kd.fresh' (Kd.R_lt (by (with_reducible repeat (first | apply Kd.R_alloc | apply Kd.R_drewN | apply Kd.R_drew)); exact HO_61.out)) k_ hk⟩)); (case aO => exact (by (with_reducible repeat (first | apply Kd.R_alloc | apply Kd.R_drewN | apply Kd.R_drew)); exact HO_7.out)); (case aS => exact (below_size (by repeat (first | (with_reducible first | exact HB.out | apply below_alloc | apply pw_below_drewN | apply below_drew1 | refine below_set ?_ GE166.out) | exact HB.out)))); (case aL => have := LMc50.out; omega); intro v192 w52 ho hb hg hat; rw [← Ny191.out] at ho; have n0_ := Aside0.mk (Kd.R_over' (by (with_reducible repeat (first | apply Kd.R_alloc | apply Kd.R_drewN | apply Kd.R_drew)); exact HO_6.out) (Kd.R_typed (by (with_reducible repeat (first | apply Kd.R_alloc | apply Kd.R_drewN | apply Kd.R_drew)); exact HO_7.out)) (by decide) hg); have n1_ := Aside0.mk (Kd.R_after (ok := (fun k_ => (w.heap.size ≤ k_))) (by (with_reducible repeat (first | apply Kd.R_alloc | apply Kd.R_drewN | apply Kd.R_drew)); exact HO_61.out) hg hat); have n2_ := Aside0.mk (blk_grown (g := gb166) (o := .cells #[.slice A0_0 l0_0.length c0_0, .slice A0_1 l0_1.length c0_1] 25 (0, 0)) (by (with_reducible repeat (first | refine blk_drewN ?_ _ | refine blk_drew ?_ | refine blk_alloc ?_ _)); exact BK166.out) hg (Kd.R_ne HO_7.out BK166.out (by decide))); have n3_ := Aside0.mk (hb); have n4_ := Aside0.mk (ho); clear HO_6; clear HO_61; clear BK166; clear HB; clear HO_7; have HO_6 := n0_; have HO_61 := n1_; have BK166 := n2_; have HB := n3_; have HO193 := n4_; clear n0_ n1_ n2_ n3_ n4_; clear ho hb hg hat))
               go_roundg k3
               case measure => have := HJ5.out; have := HK2.out; have := HK3.out; omega
               case rel => exact ⟨(x6_3), (y191), (wrap64 (x63_3 + 1)), (by first | rfl | (simp; done) | (simp [*]; done)), H', ⟨by have := HJ5.out; have := HK2.out; have := HK3.out; omega⟩, ⟨by (with_reducible repeat (first | apply Kd.R_alloc | apply Kd.R_drewN | apply Kd.R_drew)); exact HO_6.out⟩, ⟨by (with_reducible repeat (first | apply Kd.R_alloc | apply Kd.R_drewN | apply Kd.R_drew)); exact HO193.out⟩, ⟨by (with_reducible repeat (first | apply Kd.R_alloc | apply Kd.R_drewN | apply Kd.R_drew)); exact HO_61.out⟩, ⟨by (with_reducible repeat (first | refine blk_drewN ?_ _ | refine blk_drew ?_ | refine blk_alloc ?_ _)); exact BK166.out⟩, ⟨by repeat (first | (with_reducible first | exact HB.out | apply below_alloc | apply pw_below_drewN | apply below_drew1 | refine below_set ?_ GE166.out) | exact HB.out)⟩⟩
              ·rw [if_neg c50] at H
               exact absurd H (by simp)
             ·rw [if_neg c49] at H
              have c49b0 : (t190 == 0) = false := beq_eq_false_iff_ne.mpr c49
              have c49b1 : (t190 != 0) = true := bne_iff_ne.mpr c49
              simp only [Option.some.injEq, Prod.mk.injEq] at H
              obtain ⟨rfl, rfl, rfl⟩ := H
              have p188 : 0 ≤ (x63_3 : Int) := of_decide_eq_true (by first | (with_reducible assumption) | assumption)
              have q188 : x63_3 < (t180.length : Int) := of_decide_eq_true (by first | (with_reducible assumption) | assumption)
              obtain ⟨ad188, e188, hx188_0⟩ := Kd.at_int (Kd.R_reads' HO_61.out).2.2 x63_3 p188 q188
              cases e188
              replace p188 := eq_true p188
              replace q188 := eq_true q188
              go_wp2_with (first | ((with_reducible refine gate_callee (f := 34) rfl ?_); refine goesL_ (some 69) rfl rfl Try.func34 (by kernel_rfl) rfl #[.int .i64 4, .int .i64 (rd t180 x63_3)] rfl (by (try simp only [List.map_toArray, List.map_cons, List.map_nil]); first | done | rfl | (simp only [List.length_drop, List.length_take]; rfl)) ?_; (with_reducible refine (group_Pow.calls 4 (rd t180 x63_3) t189 t190 _ A48.out).mono ?_); rintro e w53 ⟨rfl, hb⟩; refine ⟨_, rfl, ?_⟩; have n0_ := Aside0.mk (Kd.R_below (by (with_reducible repeat (first | apply Kd.R_alloc | apply Kd.R_drewN | apply Kd.R_drew)); exact HO_6.out) hb); have n1_ := Aside0.mk (Kd.R_below (by (with_reducible repeat (first | apply Kd.R_alloc | apply Kd.R_drewN | apply Kd.R_drew)); exact HO_7.out) hb); have n2_ := Aside0.mk (Kd.R_below (by (with_reducible repeat (first | apply Kd.R_alloc | apply Kd.R_drewN | apply Kd.R_drew)); exact HO_61.out) hb); have n3_ := Aside0.mk (blk_below (g := gb166) (o := .cells #[.slice A0_0 l0_0.length c0_0, .slice A0_1 l0_1.length c0_1] 25 (0, 0)) (by (with_reducible repeat (first | refine blk_drewN ?_ _ | refine blk_drew ?_ | refine blk_alloc ?_ _)); exact BK166.out) hb); have n4_ := Aside0.mk (below_step (by repeat (first | (with_reducible first | exact HB.out | apply below_alloc | apply pw_below_drewN | apply below_drew1 | refine below_set ?_ GE166.out) | exact HB.out)) hb); clear HO_6; clear HO_7; clear HO_61; clear BK166; clear HB; have HO_6 := n0_; have HO_7 := n1_; have HO_61 := n2_; have BK166 := n3_; have HB := n4_; clear n0_ n1_ n2_ n3_ n4_; (try clear hb); (try clear hb2); (try clear hk); (try clear hi)))
              go_ret3
              exact ⟨_, _, by first | rfl | (simp [errW_none, errW_some] <;> rfl) | (simp [*, errW_none, errW_some] <;> rfl), by first | exact Kd.R_nil _ _ _ _ _ | exact Kd.N_nil _ _ _ _ _ | exact Kd.V_nil _ _ _ _ _ | exact Kd.Q_nil _ _ _ _ _ | exact Kd.S_nil _ _ _ _ _, by first | exact Kd.R_nil _ _ _ _ _ | exact Kd.N_nil _ _ _ _ _ | exact Kd.V_nil _ _ _ _ _ | exact Kd.Q_nil _ _ _ _ _ | exact Kd.S_nil _ _ _ _ _, by repeat (first | (with_reducible first | exact HB.out | apply below_alloc | apply pw_below_drewN | apply below_drew1 | refine below_set ?_ GE166.out) | exact HB.out)⟩
            ·rw [if_neg c47] at H
             exact absurd H (by simp)
           ·rw [if_neg c46] at H
            exact absurd H (by simp)
          ·rw [if_neg c45] at H
           have c45b0 : decide (x63_3 < (t180.length : Int)) = false := decide_eq_false c45
           clear c45
           simp only [Option.some.injEq, Prod.mk.injEq] at H
           obtain ⟨rfl, rfl, rfl⟩ := H
           go_wp2
           go_ret3
           exact ⟨_, _, by first | rfl | (simp [errW_none, errW_some] <;> rfl) | (simp [*, errW_none, errW_some] <;> rfl), by (with_reducible repeat (first | apply Kd.R_alloc | apply Kd.R_drewN | apply Kd.R_drew)); exact HO_6.out, by (with_reducible repeat (first | apply Kd.R_alloc | apply Kd.R_drewN | apply Kd.R_drew)); exact Kd.R_mono HO_7.out (fun _ hk => hk.1), by repeat (first | (with_reducible first | exact HB.out | apply below_alloc | apply pw_below_drewN | apply below_drew1 | refine below_set ?_ GE166.out) | exact HB.out)⟩
 ·rw [if_neg c5] at H
  have c5b0 : (t167 == 0) = false := beq_eq_false_iff_ne.mpr c5
  have c5b1 : (t167 != 0) = true := bne_iff_ne.mpr c5
  simp only [Option.some.injEq, Prod.mk.injEq] at H
  obtain ⟨rfl, rfl, rfl⟩ := H
  go_enter Try.func22, Try.ntmps22
  go_wp2_with (first | ((with_reducible refine gate_dst (N := 3) rfl ?_); (try (refine gate_guard (by rfl) ?_; dsimp only)); refine box_event ?hg (N := 3) ?hd (cs := #[.slice A0_0 l0_0.length c0_0, .slice A0_1 l0_1.length c0_1]) (t := 25) ?hr ?_; (case hd => rfl); (case hg => rfl); (case hr => first | (go_simp; done) | (go_simp; rfl)); intro gb166 hg w54 hbox hb; have n0_ := Aside0.mk (Kd.V_below (Kd.V_elderB (by (with_reducible repeat (first | apply Kd.V_alloc | apply Kd.V_drewN | apply Kd.V_drew)); exact HO2.out) gb166 (Nat.le_of_eq hg.symm)) hb); have n1_ := Aside0.mk (below_step (by repeat (first | (with_reducible first | exact HB.out | apply below_alloc | apply pw_below_drewN | apply below_drew1) | exact HB.out)) hb); have n2_ := Aside0.mk (hbox); have n3_ := Aside0.mk ((by rw [hg]; exact (below_size (by repeat (first | (with_reducible first | exact HB.out | apply below_alloc | apply pw_below_drewN | apply below_drew1) | exact HB.out))) : w.heap.size ≤ gb166)); have n4_ := Aside0.mk ((by rw [hg]; exact (below_size (by repeat (first | (with_reducible first | exact HB.out | apply below_alloc | apply pw_below_drewN | apply below_drew1) | exact HB.out))) : w.heap.size ≤ gb166)); clear HO2; clear HB; have HO2 := n0_; have HB := n1_; have BK166 := n2_; have GW166 := n3_; have GE166 := n4_; clear n0_ n1_ n2_ n3_ n4_; clear hb hbox hg; have hcz55_0 : w54.cell? ⟨gb166, 0, none⟩ = some (.slice A0_0 l0_0.length c0_0) := (blk_cell BK166.out 0).trans rfl; have hcz55_1 : w54.cell? ⟨gb166, 1, none⟩ = some (.slice A0_1 l0_1.length c0_1) := (blk_cell BK166.out 1).trans rfl; have hfz55_0 := blk_frozen BK166.out 0; have hfz55_1 := blk_frozen BK166.out 1) | ((with_reducible refine gate_callee (f := 82) rfl ?_); refine goesL_ (some 18) rfl rfl Try.func82 (by kernel_rfl) rfl #[.agg #[.slice A0_0 l0_0.length c0_0, .slice A0_1 l0_1.length c0_1]] rfl (by (try simp only [List.map_toArray, List.map_cons, List.map_nil]); first | done | rfl | (simp only [List.length_drop, List.length_take]; rfl)) ?_; (with_reducible refine (program_Check.calls k _ _ l0_0 _ _ l0_1 t167 _ ?side1 ?side2 ?side3 ?side4 A4.out).mono ?_); (case side1 => repeat (first | exact (Kd.C_below HR0_0.out HB.out) | (with_reducible refine Kd.C_alloc ?_ _) | (with_reducible refine Kd.C_drewN ?_ _) | (with_reducible refine Kd.C_drew ?_))); (case side2 => exact HC0_0.out); (case side3 => repeat (first | exact (Kd.C_below HR0_1.out HB.out) | (with_reducible refine Kd.C_alloc ?_ _) | (with_reducible refine Kd.C_drewN ?_ _) | (with_reducible refine Kd.C_drew ?_))); (case side4 => exact HC0_1.out); rintro e w56 ⟨rfl, hb⟩; refine ⟨_, rfl, ?_⟩; have n0_ := Aside0.mk (Kd.V_below (by (with_reducible repeat (first | apply Kd.V_alloc | apply Kd.V_drewN | apply Kd.V_drew)); exact HO2.out) hb); have n1_ := Aside0.mk (blk_below (g := gb166) (o := .cells #[.slice A0_0 l0_0.length c0_0, .slice A0_1 l0_1.length c0_1] 25 (0, 0)) (by (with_reducible repeat (first | refine blk_drewN ?_ _ | refine blk_drew ?_ | refine blk_alloc ?_ _)); exact BK166.out) hb); have n2_ := Aside0.mk (below_step (by repeat (first | (with_reducible first | exact HB.out | apply below_alloc | apply pw_below_drewN | apply below_drew1 | refine below_set ?_ GE166.out) | exact HB.out)) hb); clear HO2; clear BK166; clear HB; have HO2 := n0_; have BK166 := n1_; have HB := n2_; clear n0_ n1_ n2_; (try clear hb); (try clear hb2); (try clear hk); (try clear hi)))
  go_ret3
  exact ⟨_, _, by first | rfl | (simp [errW_none, errW_some] <;> rfl) | (simp [*, errW_none, errW_some] <;> rfl), by first | exact Kd.R_nil _ _ _ _ _ | exact Kd.N_nil _ _ _ _ _ | exact Kd.V_nil _ _ _ _ _ | exact Kd.Q_nil _ _ _ _ _ | exact Kd.S_nil _ _ _ _ _, by first | exact Kd.R_nil _ _ _ _ _ | exact Kd.N_nil _ _ _ _ _ | exact Kd.V_nil _ _ _ _ _ | exact Kd.Q_nil _ _ _ _ _ | exact Kd.S_nil _ _ _ _ _, by repeat (first | (with_reducible first | exact HB.out | apply below_alloc | apply pw_below_drewN | apply below_drew1 | refine below_set ?_ GE166.out) | exact HB.out)⟩
end Go.Proofs.Ytdbamhckgaoibaa.P
namespace Go.Proofs.Ytdbamhckgaoibaa.P
open Go.RowKit Go.Proofs.YtdbamhckgaoibaaW.PrintWords Go.Proofs.YtdbamhckgaoibaaW.PrintLast Go.Proofs.YtdbamhckgaoibaaW.PrintMore
theorem inF_ofC {l : List Int} (h : l.any outQ = false) : ∀ x ∈ l, Sig.InF x := fun x hx => by
  have := List.any_eq_false.1 h x hx
  unfold Sig.InF
  simp [outQ] at this
  omega
def goodAt (rows : List (List Int)) (owners : List Int) (i : Nat) : Bool :=
  (rows.getD i []).length != 0 && (rows.getD i []).length == (rows.getD 0 []).length && (decide (0 ≤ owners.getD i 0) && decide (owners.getD i 0 ≤ 63)) && !(rows.getD i []).any outQ
def goodFrom (rows : List (List Int)) (owners : List Int) : Nat → Nat → Bool
  | 0, _ => true
  | d + 1, i => goodAt rows owners i && goodFrom rows owners d (i + 1)
def checkP (rows : List (List Int)) (owners : List Int) : Int :=
  if decide (64 < rows.length) || rows.any isLong then 2 else if rows.length = owners.length then (if goodFrom rows owners rows.length 0 then 0 else 230) else 230
theorem rdL0 (rows : List (List Int)) : rd_L1 rows 0 = rows.getD 0 [] := rfl
theorem isPerson_math (n : Int) : program_isPerson.f n = some (decide (0 ≤ n) && decide (n ≤ 63)) := by
  unfold program_isPerson.f
  rw [within_math]; rfl
theorem check_l0 (rows : List (List Int)) (owners : List Int) (hn : rows.length < 1000000) (ho : rows.length = owners.length) (k : Nat) :
    ∀ d i, rows.length - i = d → i ≤ rows.length → program_Check.l0 (k + d + 1) rows (rows.length : Int) (i : Int) rows owners = some (if goodFrom rows owners d i then 0 else 230) := by
  intro d
  induction d with
  | zero =>
    intro i hd hi
    obtain rfl : i = rows.length := by omega
    rw [program_Check.l0, if_neg (by omega)]; rfl
  | succ d ih =>
    intro i hd hi
    rw [program_Check.l0, if_pos (by omega), if_pos (by omega), if_pos (by omega), rd_L1_nat, rd_nat, rdL0, isPerson_math, goodFrom]
    unfold goodAt
    by_cases h0 : (rows.getD i []).length = 0
    · have e0 : ((rows.getD i []).length != 0) = false := bne_eq_false_iff_eq.2 h0
      rw [if_pos (by omega), e0]; simp only [Bool.false_and, Bool.false_eq_true, if_false]
    · rw [if_neg (by omega), if_pos (by omega)]
      by_cases h1 : (rows.getD i []).length = (rows.getD 0 []).length
      · rw [if_pos (by omega), if_pos (by omega)]
        have e0 : ((rows.getD i []).length != 0) = true := bne_iff_ne.2 h0
        have e1 : ((rows.getD i []).length == (rows.getD 0 []).length) = true := beq_iff_eq.2 h1
        rw [e0, e1]
        simp only [Option.bind_some, Bool.true_and]
        cases hp : (decide (0 ≤ owners.getD i 0) && decide (owners.getD i 0 ≤ 63)) with
        | false => simp
        | true =>
          rw [if_pos rfl]
          unfold contains_odd.f
          simp only [Option.bind_some]
          cases hq : (rows.getD i []).any outQ with
          | true => simp
          | false =>
            rw [if_neg (by simp), wrap_succ (by omega), ← Nat.add_assoc, ih (i + 1) (by omega) (by omega)]
            simp
      · rw [if_neg (by omega)]
        have e1 : ((rows.getD i []).length == (rows.getD 0 []).length) = false := beq_eq_false_iff_ne.2 h1
        rw [e1]; simp
theorem check_math (rows : List (List Int)) (owners : List Int) (k : Nat) (hk : 66 ≤ k) : program_Check.f k rows owners = some (checkP rows owners) := by
  obtain ⟨k, rfl⟩ : ∃ k', k = k' + 1 := ⟨k - 1, by omega⟩
  unfold program_Check.f checkP
  by_cases h : 64 < rows.length
  · rw [if_pos (by omega), program_Check.j0, if_pos rfl]; simp [h]
  · rw [if_neg (by omega)]
    unfold contains_long.f
    simp only [Option.bind_some]
    rw [program_Check.j0]
    cases hl : rows.any isLong with
    | true => rw [if_pos rfl]; simp
    | false =>
      rw [if_neg (by simp)]
      have e : decide (64 < rows.length) = false := decide_eq_false h
      rw [e]
      by_cases ho : rows.length = owners.length
      · rw [if_pos (by omega), show k = (k - rows.length - 1) + rows.length + 1 from by omega]
        have := check_l0 rows owners (by omega) ho (k - rows.length - 1) rows.length 0 (by omega) (by omega)
        rw [show ((0 : Nat) : Int) = 0 from rfl] at this
        rw [this]
        simp [ho]
      · rw [if_neg (by omega)]
        simp [ho]
structure RightP (rows : List (List Int)) (owners : List Int) : Prop where
  few : rows.length ≤ 64
  own : rows.length = owners.length
  row : ∀ i, i < rows.length → (rows.getD i []).length ≠ 0 ∧ (rows.getD i []).length = (rows.getD 0 []).length ∧ (rows.getD i []).length ≤ 64 ∧ ∀ x ∈ rows.getD i [], Sig.InF x
  owner : ∀ i, i < rows.length → 0 ≤ owners.getD i 0 ∧ owners.getD i 0 ≤ 63
theorem goodFrom_iff (rows : List (List Int)) (owners : List Int) : ∀ d i, goodFrom rows owners d i = true ↔ ∀ j, i ≤ j → j < i + d → goodAt rows owners j = true
  | 0, i => ⟨fun _ j h1 h2 => by omega, fun _ => rfl⟩
  | d + 1, i => by
    rw [goodFrom, Bool.and_eq_true, goodFrom_iff rows owners d (i + 1)]
    constructor
    · rintro ⟨h1, h2⟩ j h3 h4
      by_cases e : j = i
      · subst e; exact h1
      · exact h2 j (by omega) (by omega)
    · exact fun h => ⟨h i (by omega) (by omega), fun j h3 h4 => h j (by omega) (by omega)⟩
theorem check_ok {rows : List (List Int)} {owners : List Int} (h : checkP rows owners = 0) : RightP rows owners := by
  unfold checkP at h
  split at h
  · cases h
  · rename_i h1
    simp only [Bool.or_eq_true, decide_eq_true_eq, not_or] at h1
    split at h
    · rename_i h2
      split at h
      · rename_i h3
        rw [goodFrom_iff] at h3
        have hg : ∀ i, i < rows.length → _ := fun i hi => by
          have := h3 i (Nat.zero_le _) (by omega)
          unfold goodAt at this
          simp only [Bool.and_eq_true, bne_iff_ne, beq_iff_eq, decide_eq_true_eq, Bool.not_eq_true'] at this
          exact this
        refine ⟨by omega, h2, fun i hi => ?_, fun i hi => ?_⟩
        · obtain ⟨⟨⟨q1, q2⟩, q3⟩, q4⟩ := hg i hi
          refine ⟨q1, q2, ?_, inF_ofC q4⟩
          have hm := Sig.getD_mem hi
          refine Nat.le_of_not_lt fun hlt => h1.2 (List.any_eq_true.2 ⟨_, hm, ?_⟩)
          unfold isLong
          exact decide_eq_true hlt
        · obtain ⟨⟨⟨q1, q2⟩, q3⟩, q4⟩ := hg i hi
          exact q3
      · cases h
    · cases h
end Go.Proofs.Ytdbamhckgaoibaa.P
namespace Go.Proofs.Ytdbamhckgaoibaa.P
open Go.RowKit
def ordQ : Nat := 1073741789
theorem isEl_nat (x : Int) : isEl x = true ↔ 1 ≤ x ∧ x < 2147483579 ∧ x.toNat ^ ordQ % 2147483579 = 1 := by
  have e : ∀ y : Nat, y ^ (2147483579 / 2) = y ^ ordQ := fun y => by rw [show 2147483579 / 2 = ordQ from rfl]
  unfold isEl
  rw [decide_eq_true_eq]
  refine ⟨fun ⟨h1, h2, h3⟩ => ⟨h1, h2, ?_⟩, fun ⟨h1, h2, h3⟩ => ⟨h1, h2, ?_⟩⟩
  · have hn : ¬ 2147483579 ∣ x.toNat := fun hd => by have := Nat.le_of_dvd (by omega) hd; omega
    rw [← e]
    exact (Sig.euler Sig.prime_P (by decide) hn).2 h3
  · have hn : ¬ 2147483579 ∣ x.toNat := fun hd => by have := Nat.le_of_dvd (by omega) hd; omega
    rw [← e] at h3
    exact (Sig.euler Sig.prime_P (by decide) hn).1 h3
theorem isEl_iff (x : Int) : isEl x = true ↔ 1 ≤ x ∧ x < 2147483579 ∧ x ^ ordQ % 2147483579 = 1 := by
  rw [isEl_nat]
  constructor
  · rintro ⟨h1, h2, h3⟩
    refine ⟨h1, h2, ?_⟩
    rw [show x = (x.toNat : Int) by omega, ← Int.natCast_pow]
    have := congrArg (fun n : Nat => (n : Int)) h3
    simpa using this
  · rintro ⟨h1, h2, h3⟩
    refine ⟨h1, h2, ?_⟩
    rw [show x = (x.toNat : Int) by omega, ← Int.natCast_pow] at h3
    omega
theorem el_of {x : Int} (h : x ^ ordQ % 2147483579 = 1) : isEl (x % 2147483579) = true := by
  rw [isEl_iff]
  have h1 : (x % 2147483579) ^ ordQ % 2147483579 = 1 := by rw [Sig.pow_emod]; exact h
  refine ⟨?_, by omega, h1⟩
  have h0 : x % 2147483579 ≠ 0 := fun h0 => by
    rw [h0, Int.zero_pow (by decide)] at h1
    omega
  omega
theorem el_one_pow {x : Int} (h : isEl x = true) : x ^ ordQ % 2147483579 = 1 := ((isEl_iff x).1 h).2.2
theorem pow_one_mod {x : Int} (h : x % 2147483579 = 1) (n : Nat) : x ^ n % 2147483579 = 1 := by
  rw [← Sig.pow_emod, h, Int.one_pow]; rfl
theorem el_pow {a : Int} (ha : isEl a = true) (n : Nat) : isEl (a ^ n % 2147483579) = true :=
  el_of (by rw [← Int.pow_mul, Nat.mul_comm, Int.pow_mul]; exact pow_one_mod (el_one_pow ha) n)
theorem el_pow_mod {a : Int} (ha : isEl a = true) (n : Nat) : a ^ n % 2147483579 = a ^ (n % ordQ) % 2147483579 := by
  conv => lhs; rw [← Nat.div_add_mod n ordQ, Int.pow_add, Int.pow_mul, Int.mul_emod, pow_one_mod (el_one_pow ha), Int.one_mul, Int.emod_emod]
theorem two_pow_four {m n : Nat} (h : m = 2 * n) : (2 : Nat) ^ m = 4 ^ n := by rw [h, Nat.pow_mul]
theorem el_four : isEl 4 = true := by
  have h := Sig.fermat_gen (p := 2147483579) (a := 2) Sig.prime_P (by decide) (by omega)
  rw [two_pow_four (show 2147483579 - 1 = 2 * ordQ from rfl)] at h
  have e4 : (4 : Int).toNat = 4 := rfl
  rw [isEl_nat, e4]
  exact ⟨by decide, by decide, h⟩
theorem gen_apart {d : Nat} (h0 : 0 < d) (h1 : d < ordQ) : (4 : Int) ^ d % 2147483579 ≠ 1 := by
  intro h
  have hd : ¬ ordQ ∣ d := fun hd => by have := Nat.le_of_dvd h0 hd; omega
  have hf := Sig.fermat_gen (p := 1073741789) (a := d) Sig.prime_Q (by decide) hd
  obtain ⟨q, hq⟩ : ∃ q, q + 1 = 1073741789 - 1 := ⟨1073741787, rfl⟩
  rw [← hq, Nat.pow_succ, Nat.mul_comm] at hf
  have h2 : (4 : Int) ^ (d * d ^ q) % 2147483579 = 1 := by
    rw [Int.pow_mul]; exact pow_one_mod h _
  rw [el_pow_mod el_four, show d * d ^ q % ordQ = 1 from hf] at h2
  omega
theorem gen_inj {a b : Nat} (ha : a < ordQ) (hb : b < ordQ) (h : (4 : Int) ^ a % 2147483579 = (4 : Int) ^ b % 2147483579) : a = b := by
  have key : ∀ {a b : Nat}, a ≤ b → b < ordQ → (4 : Int) ^ a % 2147483579 = (4 : Int) ^ b % 2147483579 → a = b := by
    intro a b hab hb h
    by_cases e : a = b
    · exact e
    · exfalso
      have h1 : (4 : Int) ^ (ordQ - a + a) % 2147483579 = (4 : Int) ^ (ordQ - a + b) % 2147483579 := by
        rw [Int.pow_add, Int.pow_add, Int.mul_emod, h, ← Int.mul_emod]
      rw [show ordQ - a + a = ordQ by omega, el_one_pow el_four, el_pow_mod el_four, show (ordQ - a + b) % ordQ = b - a by
        rw [show ordQ - a + b = (b - a) + ordQ by omega, Nat.add_mod_right, Nat.mod_eq_of_lt (by omega)]] at h1
      exact gen_apart (by omega) (by omega) h1.symm
  rcases Nat.le_total a b with hab | hab
  · exact key hab hb h
  · exact (key hab ha h.symm).symm
end Go.Proofs.Ytdbamhckgaoibaa.P
namespace Go.Proofs.Ytdbamhckgaoibaa.P
open Go.RowKit Go.Proofs.YtdbamhckgaoibaaW.PrintWords Go.Proofs.YtdbamhckgaoibaaW.PrintLast Go.Proofs.YtdbamhckgaoibaaW.PrintMore
attribute [local go_sem] Oper.semAt_some
set_option linter.unusedVariables false
set_option linter.unusedSimpArgs false
def IterC (g : Nat) (lb : Array Value) (w : World) (yv : List Value) : Prop :=
  ∀ (l : Nat) (W1 : World) (J : Nat → World → Prop), (∀ k W, J k W → Below w.heap.size w W) → (∀ k W W', J k W → Below W.heap.size W W' → J k W') →
    (∀ k W v, yv[k]? = some v → J k W → YieldAt Fence.wide 7 Try.prog l #[v] W fun e W' => e = .returned (.bool true) ∧ J (k + 1) W') → J 0 W1 →
    CallsIn Fence.wide 8 Try.prog g (#[.func (.yield l) #[] #[]] ++ lb) W1 fun e W' => (∃ v, e = .returned v) ∧ J yv.length W'
def AI (w : World) (Bq : Nat) (yv : List Value) (k : Nat) (W : World) : Prop :=
  ∃ v, Bx W Bq v ∧ W.ownsRow (Bq + 1) 23 1 v k (yv.take k) ∧ Below Bq w W
theorem AI.own (w : World) (Bq : Nat) (yv : List Value) {B : Nat} (hB : Bq ≤ B) (hw : Bq ≤ w.heap.size) : OwnFrom B (AI w Bq yv) := by
  rintro k W W' row ⟨v, h1, h2, h3⟩ hg hr
  exact ⟨v, h1.kept hg (fun r e => (hr r e).2), own_nocell h2 hg (fun r e => (hr r e).2), h3.grown hg (Nat.le_trans hw h3.size) (fun k e => Nat.le_trans hB (hr k e).1)⟩
theorem keeps_own {W W' : World} {base n size : Nat} {e : TypeId} {v : Value} {xs : List Value} (hO : W.ownsRow base e size v n xs) (hg : W.grownBy W' v.ownBlock) : KeepsOthers W W' :=
  ⟨hg.size, fun k o hk hf => (hg.block k (Array.getElem?_eq_some_iff.1 hk).1 (fun e1 => by
    obtain ⟨cells, hcl⟩ := own_typed hO k e1.symm
    rw [hcl] at hk
    cases hk
    simp [Obj.isCells] at hf)).trans hk⟩
theorem AI.below {w : World} {Bq : Nat} {yv : List Value} {k : Nat} {W W' : World} (h : AI w Bq yv k W) (hb : Below W.heap.size W W') (hw : Bq ≤ w.heap.size) : AI w Bq yv k W' := by
  obtain ⟨v, h1, h2, h3⟩ := h
  exact ⟨v, h1.below hb, own_below h2 hb, h3.trans (hb.mono (Nat.le_trans hw h3.size))⟩
set_option maxRecDepth 100000 in
set_option maxHeartbeats 4000000 in
theorem appendSeq_c {g : Nat} {lb : Array Value} {w : World} {yv : List Value} (eg : ∀ args w, (callFunc g args).run Try.prog w = .ok (.enter g args) w) (hit : IterC g lb w yv) (h1 : ∀ v ∈ yv, ∃ A n c, v = Value.slice A n c) (hl : yv.length ≤ 1000000) :
    Calls Try.prog 170 #[.slice none 0 0, .func (.func g) #[] lb] w fun e w' => ∃ v, e = .returned v ∧ w'.ownsRow (w.heap.size + 1) 23 1 v yv.length yv ∧ Below w.heap.size w w' := by
  have HIT := Aside0.mk hit
  have H1 := Aside0.mk h1
  clear hit h1
  refine (callsIn_wide (n := 9)).1 ?_
  refine callsIn_of_wp_marks Try.func170 rfl trivial ?_ rfl
  simp only [Try.ntmps170, List.size_toArray, List.length_cons, List.length_nil, Nat.reduceAdd, Nat.reduceSub, Array.replicate_succ, Array.replicate_zero, List.push_toArray, List.append_toArray, List.nil_append, List.cons_append]
  gi_wp2
  obtain ⟨W0, hW0⟩ : ∃ W0, w.alloc (.cells #[.slice none 0 0] 22) = W0 := ⟨_, rfl⟩
  rw [hW0]
  have hb0 : Below w.heap.size w W0 := by rw [← hW0]; exact (Below.refl _ _).alloc (Nat.le_refl _) _
  have hx0 : Bx W0 w.heap.size (.slice none 0 0) := by rw [← hW0]; exact Bx.new _ _ _
  have hz0 : W0.heap.size = w.heap.size + 1 := by rw [← hW0]; simp
  have HB0 := Aside0.mk hb0
  have HZ0 := Aside0.mk hz0
  have h0 : AI w w.heap.size yv 0 W0 := ⟨_, hx0, World.ownsRow_nil _ _ _ _, hb0⟩
  have H0 := Aside0.mk h0
  clear hW0 hb0 hx0 hz0 h0
  refine range_all (by omega) rfl eg (AI w w.heap.size yv) 0 (fun k => k = yv.length) (fun k vs k' => k < yv.length ∧ vs = #[yv.getD k undef] ∧ k' = k + 1) ?_ H0.out ?_ ?_ ?_ ?_
  · exact AI.own _ _ _ (by rw [HZ0.out]; omega) (Nat.le_refl _)
  · rintro k vs k' ⟨_, rfl, _⟩; rfl
  · intro l W1 J hs hJI hJ hY hj0
    refine (HIT.out l W1 J (fun k W h => (hJI k W h).choose_spec.2.2) (fun k W W' h hb => hJ k k W W' h ((keeps_below hb).from _) ((hJI k W h).below hb (Nat.le_refl _))) (fun k W v hv h => ?_) hj0).mono (fun e W' h => ⟨h.1, yv.length, rfl, h.2⟩)
    have hlt := (List.getElem?_eq_some_iff.1 hv).1
    have hv' : v = yv.getD k undef := by rw [List.getD_eq_getElem?_getD, hv]; rfl
    rw [hv']
    exact hY k _ _ W ⟨hlt, rfl, rfl⟩ h
  · rintro l k vs k' W ⟨hk, rfl, rfl⟩ hI
    have HI := Aside0.mk hI
    clear hI
    obtain ⟨y, hy⟩ : ∃ y, y = yv.getD k undef := ⟨_, rfl⟩
    rw [← hy]
    obtain ⟨yA, yn, yc, hy1⟩ := H1.out y (by rw [hy, List.getD_eq_getElem?_getD, List.getElem?_eq_getElem hk]; exact List.getElem_mem hk)
    have hyt : yv.take (k + 1) = yv.take k ++ [y] := by rw [List.take_succ_eq_append_getElem hk, hy, List.getD_eq_getElem?_getD, List.getElem?_eq_getElem hk]; rfl
    have HYT := Aside0.mk hyt
    subst hy1
    clear hy hyt
    gi_wp2
    refine ⟨KeepsFrom.refl _ _, HI.out, ?_⟩
    clear HI
    rintro W2 ⟨v, hx, ho, hb⟩
    have e2 := hx.1
    have f2 := hx.2
    have hlt := hx.lt
    have HX := Aside0.mk hx
    have HB := Aside0.mk hb
    have HOA := Aside0.mk (own_below ho ((Below.refl _ W2).alloc (Nat.le_refl _) (.cells #[.slice yA yn yc] 23)))
    have HO := Aside0.mk ho
    obtain ⟨i0, hi0, hz0, hz1, hz2⟩ := info_parts (P := Try.prog) (e := 23) (z := .slice none 0 0) (size := 1) (bytes := 24) (by kernel_rfl)
    obtain ⟨vA, vc, rfl⟩ := own_len ho
    clear hx hb ho
    gi_wp2_with (gi_at_builtin; refine wpListIn_append_own _ rfl _ _ 22 rfl (w.heap.size + 1) 23 i0 (.slice none 0 0) 1 24 (by kernel_rfl) hi0 hz0 hz1 hz2 rfl (by decide) _ _ _ rfl HOA.out ⟨W2.heap.size, 0, none⟩ 1 1 [.slice yA yn yc] rfl ?qc1 ?qc2 ?qc3 ?qc4 ?qc5 ?qc6 ?_)
    case qc1 => rfl
    case qc2 =>
      intro j u hj
      have hj1 := (List.getElem?_eq_some_iff.1 hj).1
      obtain rfl : j = 0 := by simpa using hj1
      simp only [List.getElem?_cons_zero, Option.some.injEq] at hj
      subst hj
      exact (Bx.new W2 (.slice yA yn yc) 23).1
    case qc3 => intro u hu; simp only [List.mem_singleton] at hu; subst hu; rfl
    case qc4 => unfold maxLen; omega
    case qc5 => omega
    case qc6 => simp; omega
    intro v' w9 hown hgrow hnil
    clear hnil
    obtain ⟨vA', vc', rfl⟩ := own_len hown
    have hch : Chg (fun b => (Value.slice vA k vc).ownBlock = some b) (W2.alloc (.cells #[.slice yA yn yc] 23)) w9 := (Chg.refl _ _).then_grown hgrow (fun b e => .inl e)
    have hx9 := (HX.out.alloc (.cells #[.slice yA yn yc] 23)).chg hch (fun e => by have := own_base HO.out _ e; omega)
    have e9 := hx9.1
    have f9 := hx9.2
    have HX9 := Aside0.mk hx9
    have HW9 := Aside0.mk hown
    have hk9 : KeepsOthers W2 w9 := (keeps_below ((Below.refl _ W2).alloc (Nat.le_refl _) (.cells #[.slice yA yn yc] 23))).trans (keeps_own HOA.out hgrow)
    have hb9 : Below w.heap.size w w9 := by
      refine (HB.out.alloc HB.out.size (.cells #[.slice yA yn yc] 23)).grown hgrow (by simp; omega) (fun b e => by have := own_base HO.out _ e; omega)
    have HK9 := Aside0.mk hk9
    have HB9 := Aside0.mk hb9
    clear hown hgrow e2 f2 hi0 hz0 hz1 hz2 i0 hch hx9 hk9 hb9
    gi_wp2
    refine ⟨(HK9.out.trans (KeepsOthers.setCell _ _ _)).from _, _, HX9.out.set _, ?_, HB9.out.setCell (Nat.le_refl _) _⟩
    rw [HYT.out]
    exact own_far HW9.out (Nat.lt_succ_self _) _
  · rintro D k W hD rfl ⟨v, hx, ho, hb⟩ hK
    have e2 := hx.1
    have HO := Aside0.mk ho
    have HB := Aside0.mk hb
    have hDw : w.heap.size ≤ D := by have := HZ0.out; omega
    clear hx ho hb
    gi_wp2
    refine ⟨by simp, .inl ⟨_, _, rfl, run_takeDeferred hK, ?_⟩⟩
    refine ⟨v, by simp [results, Try.results170, go_sem], v, rfl, ?_, HB.out.grown (grownBy_putObj' W D (.deferred none)) HB.out.size (fun b e => by cases e; exact hDw)⟩
    have := own_nocell HO.out (grownBy_putObj' W D (.deferred none)) (fun r e => by cases e; exact ⟨_, hK, rfl⟩)
    rw [List.take_length] at this
    exact this
theorem collect_c {g : Nat} {lb : Array Value} {w : World} {yv : List Value} (eg : ∀ args w, (callFunc g args).run Try.prog w = .ok (.enter g args) w) (hit : IterC g lb w yv) (h1 : ∀ v ∈ yv, ∃ A n c, v = Value.slice A n c) (hl : yv.length ≤ 1000000) :
    Calls Try.prog 93 #[.func (.func g) #[] lb] w fun e w' => ∃ v, e = .returned v ∧ w'.ownsRow (w.heap.size + 1) 23 1 v yv.length yv ∧ Below w.heap.size w w' := by
  have HC := Aside0.mk (appendSeq_c eg hit h1 hl)
  clear eg hit h1
  go_enter Try.func93, Try.ntmps93
  go_wp2_with (go_at_call 170; refine HC.out.mono ?_; rintro e w' ⟨v, rfl, h1, h2⟩; have H1 := Aside0.mk h1; have H2 := Aside0.mk h2; clear h1 h2)
  go_ret
  exact ⟨_, rfl, H1.out, H2.out⟩
theorem C_of_own {W : World} {base : Nat} {v : Value} {yv : List Value} {rows : List (List Int)} (ho : W.ownsRow base 23 1 v yv.length yv) (hl : yv.length = rows.length) (hb : rows.length ≤ 1000000) (hr : ∀ i, i < rows.length → ∃ A c, yv[i]? = some (.slice A (rows.getD i []).length c) ∧ (rows.getD i []).length ≤ c ∧ Kd.C (Kd.int .i64) W A (rows.getD i []).length (rows.getD i [])) :
    ∃ A c, v = .slice A rows.length c ∧ rows.length ≤ c ∧ Kd.C (Kd.slice 3 (Kd.int .i64)) W A rows.length rows := by
  rcases ho.2 with ⟨rfl, h0⟩ | ⟨g, cap, cur, rfl, hg, hh, hc1, hc2, hc3, hc4⟩
  · exact ⟨none, 0, by rw [← hl, h0], by omega, rfl, by omega, fun h => by omega⟩
  · rw [hl] at hc1
    refine ⟨some ⟨g, 0, none⟩, cap, by rw [hl], hc1, rfl, by omega, fun h => ⟨⟨g, 0, none⟩, rfl, fun j p hj => ?_⟩⟩
    have hjl := (List.getElem?_eq_some_iff.1 hj).1
    obtain ⟨A, c, h1, h2, h3⟩ := hr j hjl
    have hp : rows.getD j [] = p := by rw [List.getD_eq_getElem?_getD, hj]; rfl
    rw [hp] at h1 h2 h3
    refine ⟨[.slice A p.length c], rfl, ⟨A, c, rfl, h2, h3⟩, fun i u hu => ?_⟩
    have hi1 := (List.getElem?_eq_some_iff.1 hu).1
    obtain rfl : i = 0 := by simpa using hi1
    simp only [List.getElem?_cons_zero, Option.some.injEq] at hu
    subst hu
    have := ho.cells (g := g) rfl j _ h1
    show W.cell? (Addr.add ⟨g, 0, none⟩ (j * 1 + 0)) = _
    rw [Nat.mul_one, Nat.add_zero]
    exact this
end Go.Proofs.Ytdbamhckgaoibaa.P
namespace Go.Proofs.Ytdbamhckgaoibaa.P
open Go.RowKit Go.Proofs.YtdbamhckgaoibaaW.PrintWords Go.Proofs.YtdbamhckgaoibaaW.PrintLast Go.Proofs.YtdbamhckgaoibaaW.PrintMore
attribute [local go_sem] Oper.semAt_some
set_option linter.unusedVariables false
set_option linter.unusedSimpArgs false
theorem wrap_nextB {j : Nat} (h : j < 9223372036854775807) : wrap64 ((j : Int) + 1) = ((j + 1 : Nat) : Int) := by unfold wrap64; omega
set_option maxRecDepth 100000 in
set_option maxHeartbeats 4000000 in
theorem rows1_it (w : World) (bs bp : Nat) (As : Option Addr) (cs : Nat) (ls : List S38) (Ap : Option Addr) (adr : Addr) (cp : Nat) (rows : List (List Int))
    (h1 : w.cell? ⟨bs, 0, none⟩ = some (.slice As ls.length cs)) (h2 : w.cell? ⟨bp, 0, none⟩ = some (.slice Ap rows.length cp)) (hadr : 0 < ls.length → Ap = some adr)
    (hs : Kd.C k38 w As ls.length ls) (hr : Kd.C (Kd.slice 3 (Kd.int .i64)) w Ap rows.length rows) (hin : ∀ s ∈ ls, 0 ≤ s.f0 ∧ s.f0 < rows.length) :
    IterC 171 #[.pointer (some ⟨bs, 0, none⟩), .pointer (some ⟨bp, 0, none⟩)] w (ls.map fun s => (w.cell? (adr.add s.f0.toNat)).getD undef) := by
  intro l W1 J hJB hJS hY hj0
  have hlen : ls.length ≤ 9223372036854775807 := hs.2.1
  have hb1 := World.block_lt_of_cell? w _ h1
  have hb2 := World.block_lt_of_cell? w _ h2
  have HS := Aside0.mk hs
  have HR := Aside0.mk hr
  have HIN := Aside0.mk hin
  have HJS := Aside0.mk hJS
  have HJB := Aside0.mk hJB
  have HH1 := Aside0.mk h1
  have HH2 := Aside0.mk h2
  have e1 := ((hJB 0 W1 hj0).cell (p := ⟨bs, 0, none⟩) hb1).trans h1
  rw [show (ls.map fun s => (w.cell? (adr.add s.f0.toNat)).getD undef).length = ls.length from List.length_map _]
  clear hs hr hin hJS h1 h2 hJB
  refine callsIn_of_wp Try.func171 rfl trivial ?_ rfl
  simp only [Try.ntmps171, List.size_toArray, List.length_cons, List.length_nil, Nat.reduceAdd, Nat.reduceSub, Array.replicate_succ, Array.replicate_zero, List.push_toArray, List.append_toArray, List.nil_append, List.cons_append]
  gi_wp2
  clear e1
  gi_loopg [8] ls.length (fun gk v8 wr => ∃ k : Nat, k ≤ ls.length ∧ gk = ls.length - k ∧ v8 = .int .i64 (k : Int) ∧ J k wr)
  case atStart => exact ⟨0, Nat.zero_le _, rfl, rfl, hj0⟩
  case round =>
    clear hj0
    obtain ⟨k, hk, rfl, rfl, hj⟩ := hrel
    have hB := HJB.out k wr hj
    by_cases hlt : k < ls.length
    · have c1 : decide ((k : Int) < (ls.length : Int)) = true := decide_eq_true (by omega)
      have c2 : decide (k < ls.length) = true := decide_eq_true hlt
      have c3 : (0 : Int) ≤ (k : Int) := by omega
      obtain ⟨ads, ea, x1, x2⟩ := at_T38 HS.out (k : Int) (by omega) (by omega)
      cases ea
      rw [Int.toNat_natCast] at x1 x2
      have hrd : rd_T38 ls (k : Int) = ls[k] := by unfold rd_T38; rw [Int.toNat_natCast, List.getD_eq_getElem?_getD, List.getElem?_eq_getElem hlt]; rfl
      rw [hrd] at x1 x2
      have hAp := hadr (by omega)
      subst hAp
      obtain ⟨g1, g2⟩ := HIN.out _ (List.getElem_mem hlt)
      obtain ⟨adr', Ar, cr, er, y1, y2, y3⟩ := at_L1 HR.out ls[k].f0 g1 g2
      obtain rfl : adr = adr' := by injection er
      have hv : (ls.map fun s => (w.cell? (adr.add s.f0.toNat)).getD undef)[k]? = some (.slice Ar (rd_L1 rows ls[k].f0).length cr) := by
        rw [List.getElem?_map, List.getElem?_eq_getElem hlt]; simp [y1]
      have hyk := hY k
      generalize (ls.map fun s => (w.cell? (adr.add s.f0.toNat)).getD undef)[k]? = ov at hv hyk
      have HYK := Aside0.mk (fun W h => hyk W _ hv h)
      generalize (rd_L1 rows ls[k].f0).length = rn at y1 HYK
      have z1 := (hB.cell (World.block_lt_of_cell? w _ x1)).trans x1
      have z2 := (hB.cell (World.block_lt_of_cell? w _ x2)).trans x2
      have z3 := (hB.cell (World.block_lt_of_cell? w _ y1)).trans y1
      have z4 := (hB.cell (World.block_lt_of_cell? w _ HH2.out)).trans HH2.out
      have w1 := Nat.lt_of_lt_of_le (World.block_lt_of_cell? w _ y1) hB.size
      have w2 := Nat.lt_of_lt_of_le hb2 hB.size
      obtain ⟨f0, hf0⟩ : ∃ f0, f0 = ls[k].f0.toNat := ⟨_, rfl⟩
      have hf1 : ls[k].f0 = (f0 : Int) := by omega
      rw [← hf0] at z3 w1
      rw [hf1] at z1
      have g3 : (f0 : Int) < (rows.length : Int) := by omega
      have g4 : (0 : Int) ≤ (f0 : Int) := by omega
      have g5 : decide (f0 < rows.length) = true := decide_eq_true (by omega)
      have HJ := Aside0.mk hj
      have HB := Aside0.mk hB
      clear hv hyk y1 y2 y3 x1 x2 hj hB hY hf0 hf1 g1 g2 hrd
      generalize ls[k].f1 = f1 at z2
      obtain ⟨fn, tmps, assign, body, hy, hR⟩ := HYK.out _ (HJS.out k wr (wr.alloc (.cells #[.int .i64 (f0 : Int), .int .i64 f1] 38)) HJ.out ((Below.refl _ wr).alloc (Nat.le_refl _) _))
      gi_wp2
      refine hR.mono ?_
      rintro e W' ⟨rfl, hj2⟩
      have HJ2 := Aside0.mk hj2
      clear hj2 z1 z2 z3 z4 w1 w2
      gi_wp2
      gi_roundg (ls.length - (k + 1))
      case measure => omega
      case rel => exact ⟨k + 1, by omega, rfl, by first | rfl | rw [wrap_nextB (by omega)], HJ2.out⟩
    · obtain rfl : k = ls.length := by omega
      have c1 : decide ((ls.length : Int) < (ls.length : Int)) = false := decide_eq_false (by omega)
      have HJ := Aside0.mk hj
      clear hj hY hB
      gi_wp2
      go_end0
      exact ⟨⟨_, rfl⟩, HJ.out⟩
set_option maxHeartbeats 1000000 in
theorem sumShare_c {g : Nat} (eg : ∀ args w, (callFunc g args).run Try.prog w = .ok (.enter g args) w) (p : Addr) (f : Nat → Int) (A0 : Option Addr) (c0 : Nat) (l : List S38) (w : World) (hr : Kd.C k38 w A0 l.length l)
    (hg : ∀ (i : Nat) (W : World), i < l.length → Below w.heap.size w W → Calls Try.prog g #[.int .i64 (i : Int), .agg #[.int .i64 (rd_T38 l (i : Int)).f0, .int .i64 (rd_T38 l (i : Int)).f1], .pointer (some p)] W fun e w' => e = .returned (.int .i64 (f i)) ∧ Below W.heap.size W w') :
    Calls Try.prog 95 #[.slice A0 l.length c0, .func (.func g) #[] #[.pointer (some p)]] w fun e w' => e = .returned (.int .i64 (sumQ f l.length)) ∧ Below w.heap.size w w' := by
  have HG := Aside0.mk hg
  have HR := Aside0.mk hr
  have hlen : l.length ≤ 9223372036854775807 := hr.2.1
  clear hr hg
  go_enter Try.func95, Try.ntmps95
  go_wp2
  go_loopg [4, 9] l.length (fun gk v4 v9 w' => ∃ j : Nat, j ≤ l.length ∧ gk = l.length - j ∧ v9 = .int .i64 (j : Int) ∧ v4 = .int .i64 (sumQ f j) ∧ Aside0 (Below w.heap.size w w'))
  case atStart => exact ⟨0, Nat.zero_le _, rfl, rfl, rfl, ⟨by first | exact Below.refl _ _ | exact pw_below_drewN (Below.refl _ _) _⟩⟩
  case round =>
    obtain ⟨j, hj, rfl, rfl, rfl, HB⟩ := hrel
    by_cases hlt : j < l.length
    · have c1 : decide ((j : Int) < (l.length : Int)) = true := decide_eq_true (by omega)
      have c2 : decide (j < l.length) = true := decide_eq_true hlt
      have c4 : (0 : Int) ≤ (j : Int) := by omega
      obtain ⟨ad, e, x1, x2⟩ := at_T38 HR.out (j : Int) (by omega) (by omega)
      cases e
      rw [Int.toNat_natCast] at x1 x2
      replace x1 := (HB.out.cell (World.block_lt_of_cell? w _ x1)).trans x1
      replace x2 := (HB.out.cell (World.block_lt_of_cell? w _ x2)).trans x2
      obtain ⟨f0, hf0⟩ : ∃ f0, f0 = (rd_T38 l (j : Int)).f0 := ⟨_, rfl⟩
      obtain ⟨f1, hf1⟩ : ∃ f1, f1 = (rd_T38 l (j : Int)).f1 := ⟨_, rfl⟩
      have hcall := HG.out j (wr.alloc (.cells #[.int .i64 f0, .int .i64 f1] 38)) hlt (HB.out.alloc HB.out.size _)
      rw [← hf0] at x1 hcall
      rw [← hf1] at x2 hcall
      have hS : sumQ f (j + 1) = (sumQ f j + f j) % 1073741789 := rfl
      generalize f j = fj at hcall hS
      have HS := Aside0.mk hS
      have HC := Aside0.mk hcall
      have HL := Aside0.mk hlen
      clear hS hcall HG hlen hf0 hf1
      go_wp2_with fail
      refine HC.out.mono ?_
      rintro e w1 ⟨rfl, hb1⟩
      have HB1 := Aside0.mk (below_then (HB.out.alloc HB.out.size (.cells #[.int .i64 f0, .int .i64 f1] 38)) (by have := HB.out.size; simp; omega) hb1)
      clear hb1
      go_wp2_with (go_at_call 36; refine (field_Add_m.calls _ _ _ _ rfl).mono ?_; rintro e w2 ⟨rfl, hb2⟩; have HB2 := Aside0.mk (below_then HB1.out (by exact HB1.out.size) hb2); clear hb2)
      go_roundg (l.length - (j + 1))
      case measure => omega
      case rel =>
        have := HL.out
        exact ⟨j + 1, by omega, rfl, by first | rfl | rw [wrap_nextB (by omega)], by rw [HS.out], HB2⟩
    · obtain rfl : j = l.length := by omega
      have c1 : decide ((l.length : Int) < (l.length : Int)) = false := decide_eq_false (by omega)
      go_wp2
      go_ret
      exact ⟨rfl, HB.out⟩
set_option maxRecDepth 100000 in
set_option maxHeartbeats 1000000 in
theorem recover1_c (B : Nat) (A1 : Option Addr) (c1 : Nat) (y : List Int) (i : Nat) (f0 f1 : Int) (W : World) (hB : W.cell? ⟨B, 0, none⟩ = some (.slice A1 y.length c1)) (hr : Kd.C (Kd.int .i64) W A1 y.length y) (hi : i < y.length) :
    Calls Try.prog 96 #[.int .i64 (i : Int), .agg #[.int .i64 f0, .int .i64 f1], .pointer (some ⟨B, 0, none⟩)] W fun e w' => e = .returned (.int .i64 (y.getD i 0 * f1 % 1073741789)) ∧ Below W.heap.size W w' := by
  obtain ⟨ad, e, hx⟩ := Kd.at_int hr (i : Int) (by omega) (by omega)
  cases e
  rw [Int.toNat_natCast] at hx
  have e : rd y (i : Int) = y.getD i 0 := by unfold rd; rw [Int.toNat_natCast]
  rw [e] at hx
  generalize y.getD i 0 = x at hx
  have c2 : decide (i < y.length) = true := decide_eq_true hi
  have c3 : (i : Int) < (y.length : Int) := by omega
  have c4 : (0 : Int) ≤ (i : Int) := by omega
  have hb1 := World.block_lt_of_cell? W _ hB
  have hb2 := World.block_lt_of_cell? W _ hx
  clear e hr
  go_enter Try.func96, Try.ntmps96
  go_wp2
  obtain ⟨W1, hW1⟩ : ∃ W1, W.alloc (.cells #[.int .i64 f0, .int .i64 f1] 38) = W1 := ⟨_, rfl⟩
  rw [hW1]
  have hW : Below W.heap.size W W1 := by rw [← hW1]; exact (Below.refl _ _).alloc (Nat.le_refl _) _
  have h1 : W1.cell? ⟨B, 0, none⟩ = some (.slice (some ad) y.length c1) := (hW.cell (p := ⟨B, 0, none⟩) hb1).trans hB
  have h2 : W1.cell? (ad.add i) = some (.int .i64 x) := (hW.cell hb2).trans hx
  have h3 : W1.cell? ⟨W.heap.size, 1, none⟩ = some (.int .i64 f1) := by
    rw [← hW1]
    simp only [World.cell?]
    rw [World.alloc_heap_new]
    rfl
  have HW := Aside0.mk hW
  clear hB hx hb1 hb2 hW1 hW
  refine start_ (n := 8) (S := fun w' => w'.cell? ⟨B, 0, none⟩ = some (.slice (some ad) y.length c1) ∧ w'.cell? (ad.add i) = some (.int .i64 x) ∧ w'.cell? ⟨W.heap.size, 1, none⟩ = some (.int .i64 f1)) (ds := []) #[false, false, false, false, false, false, false, false] (by kernel_rfl) rfl rfl ⟨h1, h2, h3⟩ (fun hHeld => ?_)
  have hW3 : Below W.heap.size W W1.drew := HW.out.drew
  generalize W1.drew = W3 at hHeld hW3 ⊢
  have HW3 := Aside0.mk hW3
  clear h1 h2 h3 hW3
  refine take_ (i := 0) (N := some 6) (v := ?_) (a' := ?_) #[true, false, false, false, false, false, false, false] rfl rfl (by kernel_rfl) (fun _ _ _ h => h) (Or.inl ⟨by rfl, ?_⟩) hHeld ?_ ?_
  rotate_left
  · rintro w' ⟨s0, s1, s2⟩
    go_simp
    with_reducible rfl
  rotate_left
  · simp only [Act.put, List.setIfInBounds_toArray, List.set_cons_zero, List.set_cons_succ, i64_w, i32_w]
    rfl
  refine pure_ (i := 1) (N := some 7) (v := ?_) (a' := ?_) #[true, true, false, false, false, false, false, false] rfl rfl (by kernel_rfl) (fun _ _ _ h => h) (Or.inl ⟨by rfl, ?_⟩) ?_ ?_
  rotate_left
  · intro w'
    go_simp
    with_reducible rfl
  rotate_left
  · simp only [Act.put, List.setIfInBounds_toArray, List.set_cons_zero, List.set_cons_succ, i64_w, i32_w]
    rfl
  refine pure_ (i := 2) (N := some 8) (v := ?_) (a' := ?_) #[true, true, true, false, false, false, false, false] rfl rfl (by kernel_rfl) (fun _ _ _ h => h) (Or.inl ⟨by rfl, ?_⟩) ?_ ?_
  rotate_left
  · intro w'
    go_simp
    with_reducible rfl
  rotate_left
  · simp only [Act.put, List.setIfInBounds_toArray, List.set_cons_zero, List.set_cons_succ, i64_w, i32_w]
    rfl
  refine take_ (i := 3) (N := some 9) (v := ?_) (a' := ?_) #[true, true, true, true, false, false, false, false] rfl rfl (by kernel_rfl) (fun _ _ _ h => h) (Or.inl ⟨by rfl, ?_⟩) hHeld ?_ ?_
  rotate_left
  · rintro w' ⟨s0, s1, s2⟩
    go_simp
    with_reducible rfl
  rotate_left
  · simp only [Act.put, List.setIfInBounds_toArray, List.set_cons_zero, List.set_cons_succ, i64_w, i32_w]
    rfl
  refine pure_ (i := 4) (N := some 10) (v := ?_) (a' := ?_) #[true, true, true, true, true, false, false, false] rfl rfl (by kernel_rfl) (fun _ _ _ h => h) (Or.inl ⟨by rfl, ?_⟩) ?_ ?_
  rotate_left
  · intro w'
    go_simp
    with_reducible rfl
  rotate_left
  · simp only [Act.put, List.setIfInBounds_toArray, List.set_cons_zero, List.set_cons_succ, i64_w, i32_w]
    rfl
  refine take_ (i := 5) (N := some 11) (v := ?_) (a' := ?_) #[true, true, true, true, true, true, false, false] rfl rfl (by kernel_rfl) (fun _ _ _ h => h) (Or.inl ⟨by rfl, ?_⟩) hHeld ?_ ?_
  rotate_left
  · rintro w' ⟨s0, s1, s2⟩
    go_simp
    with_reducible rfl
  rotate_left
  · simp only [Act.put, List.setIfInBounds_toArray, List.set_cons_zero, List.set_cons_succ, i64_w, i32_w]
    rfl
  refine one_ (i := 6) (N := some 12) #[true, true, true, true, true, true, true, false] rfl rfl (by kernel_rfl) (by decide) (fun K hK => ?_)
  refine goes_ Try.func65 (by kernel_rfl) rfl #[.int .i64 x, .int .i64 f1] (by rfl) rfl rfl (by (try simp only [List.map_toArray, List.map_cons, List.map_nil]); first | done | rfl) ?_
  refine (mul_c _ _ _).mono ?_
  rintro e w' ⟨rfl, ⟨nd, rfl⟩⟩
  refine ⟨_, rfl, hK.out _ _ ⟨pw_cell_below (pw_below_drewN (Below.refl _ _) _) hHeld.1, pw_cell_below (pw_below_drewN (Below.refl _ _) _) hHeld.2.1, pw_cell_below (pw_below_drewN (Below.refl _ _) _) hHeld.2.2⟩ (fun hHeld => ?_)⟩
  clear hK K
  refine pure_ (i := 7) (N := some 5) (v := ?_) (a' := ?_) #[true, true, true, true, true, true, true, true] rfl rfl (by kernel_rfl) (fun _ _ _ h => h) (Or.inl ⟨by rfl, ?_⟩) ?_ ?_
  rotate_left
  · intro w'
    go_simp
    with_reducible rfl
  rotate_left
  · simp only [Act.put, List.setIfInBounds_toArray, List.set_cons_zero, List.set_cons_succ, i64_w, i32_w]
    rfl
  refine done_ (by kernel_rfl) ?_
  go_wp2
  go_ret
  refine ⟨?_, ?_⟩
  · first | rfl | simp
  · exact pw_below_drewN HW3.out _
end Go.Proofs.Ytdbamhckgaoibaa.P
namespace Go.Proofs.Ytdbamhckgaoibaa.P
open Go.RowKit Go.Proofs.YtdbamhckgaoibaaW.PrintWords Go.Proofs.YtdbamhckgaoibaaW.PrintLast Go.Proofs.YtdbamhckgaoibaaW.PrintMore
attribute [local go_sem] Oper.semAt_some
set_option linter.unusedVariables false
set_option linter.unusedSimpArgs false
def RedPost (w : World) (base g : Nat) (bs : List Nat) (t : List (List Int)) (many : Nat) (e : Ending) (w' : World) : Prop := ∃ v bs', e = .returned v ∧ bs'.length = bs.length ∧ Tab w' base g bs' (Sig.reduce t many).1 ∧
      w'.ownsRow w.heap.size 3 1 v (Sig.reduce t many).2.length (nums .i64 ((Sig.reduce t many).2.map fun (p : Nat) => (p : Int))) ∧ Chg (fun k => k = g ∨ ∃ j, j < t.length ∧ k = bs.getD j 0) w w'
theorem step_none {t : List (List Int)} {ps : List Nat} {c : Nat} (h : Sig.find t c ps.length = t.length) : Sig.step (t, ps) c = (t, ps) := by
  unfold Sig.step; rw [if_neg (by simp only; omega)]
theorem step_some {t : List (List Int)} {ps : List Nat} {c k : Nat} (h : Sig.find t c ps.length = k) (hk : k < t.length) : Sig.step (t, ps) c = (Sig.pivot t ps.length k c, ps ++ [c]) := by
  unfold Sig.step; rw [if_pos (by simp only; omega)]; simp only [h]
set_option maxRecDepth 100000 in
set_option maxHeartbeats 8000000 in
theorem reduce_c (w : World) (base g cap : Nat) (bs : List Nat) (t : List (List Int)) (many n : Nat) (hT : Tab w base g bs t) (hlb : bs.length = t.length) (hR : Sig.Rect t n) (hm : many ≤ n) (hn : n ≤ 1000000000000) (hl : t.length ≤ 1000000000000) (hcap : t.length ≤ cap) (hb : base ≤ w.heap.size) (hgl : g < w.heap.size) (hbl : ∀ j, j < t.length → bs.getD j 0 < w.heap.size) :
    Calls Try.prog 120 #[.slice (some ⟨g, 0, none⟩) t.length cap, .int .i64 (many : Int)] w (RedPost w base g bs t many) := by
  refine (callsIn_wide (n := 9)).1 ?_
  refine callsIn_of_wp_marks Try.func120 rfl trivial ?_ rfl
  simp only [Try.ntmps120, List.size_toArray, List.length_cons, List.length_nil, Nat.reduceAdd, Nat.reduceSub, Array.replicate_succ, Array.replicate_zero, List.push_toArray, List.append_toArray, List.nil_append, List.cons_append]
  obtain ⟨S, hS⟩ : ∃ S : Nat → Prop, S = (fun k => k = g ∨ ∃ j, j < t.length ∧ k = bs.getD j 0) := ⟨_, rfl⟩
  have h0 : RD w base g S t.length (.slice (some ⟨g, 0, none⟩) t.length cap) bs t [] (w.alloc (.cells #[.slice (some ⟨g, 0, none⟩) t.length cap] 134)) :=
    ⟨hT.below ((Below.refl _ w).alloc (Nat.le_refl _) _), Bx.new w _ _, (Chg.refl S w).then_alloc _, Marks.nil _ _, hlb, rfl, fun i hi => by rw [hS]; exact .inr ⟨i, hi, rfl⟩, by rw [hS]; exact .inl rfl, fun k hk => by
      rw [hS] at hk
      rcases hk with rfl | ⟨j, hj, rfl⟩
      · exact hgl
      · exact hbl j hj⟩
  have H0 := Aside0.mk h0
  have HR := Aside0.mk hR
  have HS := Aside0.mk hS
  clear hS h0 hT hR hbl
  gi_wp2
  refine wpIn_loop_ghost_k (fun gk a' w' => ∃ (ds : List Deferred) (u4 u5 u6 u7 u8 u9 u10 u11 u12 u14 u15 u16 u17 u18 u19 u20 u21 u22 u23 u24 u25 u26 u27 u28 u29 u30 u31 u32 u33 u34 u35 u36 u37 u38 u39 u40 u41 u42 u43 u44 u45 u46 u47 u48 u49 u50 u51 u52 u53 u54 u55 u56 u57 u58 u59 u60 u61 u62 u63 u64 u65 u66 u67 u68 u69 u70 u71 u72 u73 u74 u75 u76 u77 u78 u79 u80 u81 u82 u83 u84 u85 u86 u87 u88 u89 u90 u91 u92 u93 u94 u95 u96 u97 u98 u99 u100 : Value), (∃ c bs', c ≤ many ∧ gk = many - c ∧ u14 = .int .i64 (c : Int) ∧ RD w base g S t.length (.slice (some ⟨g, 0, none⟩) t.length cap) bs' (Sig.reduce t c).1 ds w' ∧ w'.ownsRow (w.heap.size + 1) 3 1 u4 (Sig.reduce t c).2.length (nums .i64 ((Sig.reduce t c).2.map fun (p : Nat) => (p : Int)))) ∧ a' = { tmps := #[.slice (some ⟨g, 0, none⟩) t.length cap, .int .i64 (many : Int), .pointer (some ⟨w.heap.size, 0, none⟩), undef, u4, u5, u6, u7, u8, u9, u10, u11, u12, .int .i64 (many : Int), u14, u15, u16, u17, u18, u19, u20, u21, u22, u23, u24, u25, u26, u27, u28, u29, u30, u31, u32, u33, u34, u35, u36, u37, u38, u39, u40, u41, u42, u43, u44, u45, u46, u47, u48, u49, u50, u51, u52, u53, u54, u55, u56, u57, u58, u59, u60, u61, u62, u63, u64, u65, u66, u67, u68, u69, u70, u71, u72, u73, u74, u75, u76, u77, u78, u79, u80, u81, u82, u83, u84, u85, u86, u87, u88, u89, u90, u91, u92, u93, u94, u95, u96, u97, u98, u99, u100, undef], defers := ds }) many ?_ ?_
  · refine ⟨_, _, _, _, _, _, _, _, _, _, _, _, _, _, _, _, _, _, _, _, _, _, _, _, _, _, _, _, _, _, _, _, _, _, _, _, _, _, _, _, _, _, _, _, _, _, _, _, _, _, _, _, _, _, _, _, _, _, _, _, _, _, _, _, _, _, _, _, _, _, _, _, _, _, _, _, _, _, _, _, _, _, _, _, _, _, _, _, _, _, _, _, _, _, _, _, _, ⟨0, bs, Nat.zero_le _, rfl, rfl, H0.out, ?_⟩, rfl⟩
    exact World.ownsRow_nil _ _ _ _
  · intro gk _ wo hinv
    obtain ⟨ds, hinv⟩ := hinv
    obtain ⟨u4, hinv⟩ := hinv
    obtain ⟨u5, hinv⟩ := hinv
    obtain ⟨u6, hinv⟩ := hinv
    obtain ⟨u7, hinv⟩ := hinv
    obtain ⟨u8, hinv⟩ := hinv
    obtain ⟨u9, hinv⟩ := hinv
    obtain ⟨u10, hinv⟩ := hinv
    obtain ⟨u11, hinv⟩ := hinv
    obtain ⟨u12, hinv⟩ := hinv
    obtain ⟨u14, hinv⟩ := hinv
    obtain ⟨u15, hinv⟩ := hinv
    obtain ⟨u16, hinv⟩ := hinv
    obtain ⟨u17, hinv⟩ := hinv
    obtain ⟨u18, hinv⟩ := hinv
    obtain ⟨u19, hinv⟩ := hinv
    obtain ⟨u20, hinv⟩ := hinv
    obtain ⟨u21, hinv⟩ := hinv
    obtain ⟨u22, hinv⟩ := hinv
    obtain ⟨u23, hinv⟩ := hinv
    obtain ⟨u24, hinv⟩ := hinv
    obtain ⟨u25, hinv⟩ := hinv
    obtain ⟨u26, hinv⟩ := hinv
    obtain ⟨u27, hinv⟩ := hinv
    obtain ⟨u28, hinv⟩ := hinv
    obtain ⟨u29, hinv⟩ := hinv
    obtain ⟨u30, hinv⟩ := hinv
    obtain ⟨u31, hinv⟩ := hinv
    obtain ⟨u32, hinv⟩ := hinv
    obtain ⟨u33, hinv⟩ := hinv
    obtain ⟨u34, hinv⟩ := hinv
    obtain ⟨u35, hinv⟩ := hinv
    obtain ⟨u36, hinv⟩ := hinv
    obtain ⟨u37, hinv⟩ := hinv
    obtain ⟨u38, hinv⟩ := hinv
    obtain ⟨u39, hinv⟩ := hinv
    obtain ⟨u40, hinv⟩ := hinv
    obtain ⟨u41, hinv⟩ := hinv
    obtain ⟨u42, hinv⟩ := hinv
    obtain ⟨u43, hinv⟩ := hinv
    obtain ⟨u44, hinv⟩ := hinv
    obtain ⟨u45, hinv⟩ := hinv
    obtain ⟨u46, hinv⟩ := hinv
    obtain ⟨u47, hinv⟩ := hinv
    obtain ⟨u48, hinv⟩ := hinv
    obtain ⟨u49, hinv⟩ := hinv
    obtain ⟨u50, hinv⟩ := hinv
    obtain ⟨u51, hinv⟩ := hinv
    obtain ⟨u52, hinv⟩ := hinv
    obtain ⟨u53, hinv⟩ := hinv
    obtain ⟨u54, hinv⟩ := hinv
    obtain ⟨u55, hinv⟩ := hinv
    obtain ⟨u56, hinv⟩ := hinv
    obtain ⟨u57, hinv⟩ := hinv
    obtain ⟨u58, hinv⟩ := hinv
    obtain ⟨u59, hinv⟩ := hinv
    obtain ⟨u60, hinv⟩ := hinv
    obtain ⟨u61, hinv⟩ := hinv
    obtain ⟨u62, hinv⟩ := hinv
    obtain ⟨u63, hinv⟩ := hinv
    obtain ⟨u64, hinv⟩ := hinv
    obtain ⟨u65, hinv⟩ := hinv
    obtain ⟨u66, hinv⟩ := hinv
    obtain ⟨u67, hinv⟩ := hinv
    obtain ⟨u68, hinv⟩ := hinv
    obtain ⟨u69, hinv⟩ := hinv
    obtain ⟨u70, hinv⟩ := hinv
    obtain ⟨u71, hinv⟩ := hinv
    obtain ⟨u72, hinv⟩ := hinv
    obtain ⟨u73, hinv⟩ := hinv
    obtain ⟨u74, hinv⟩ := hinv
    obtain ⟨u75, hinv⟩ := hinv
    obtain ⟨u76, hinv⟩ := hinv
    obtain ⟨u77, hinv⟩ := hinv
    obtain ⟨u78, hinv⟩ := hinv
    obtain ⟨u79, hinv⟩ := hinv
    obtain ⟨u80, hinv⟩ := hinv
    obtain ⟨u81, hinv⟩ := hinv
    obtain ⟨u82, hinv⟩ := hinv
    obtain ⟨u83, hinv⟩ := hinv
    obtain ⟨u84, hinv⟩ := hinv
    obtain ⟨u85, hinv⟩ := hinv
    obtain ⟨u86, hinv⟩ := hinv
    obtain ⟨u87, hinv⟩ := hinv
    obtain ⟨u88, hinv⟩ := hinv
    obtain ⟨u89, hinv⟩ := hinv
    obtain ⟨u90, hinv⟩ := hinv
    obtain ⟨u91, hinv⟩ := hinv
    obtain ⟨u92, hinv⟩ := hinv
    obtain ⟨u93, hinv⟩ := hinv
    obtain ⟨u94, hinv⟩ := hinv
    obtain ⟨u95, hinv⟩ := hinv
    obtain ⟨u96, hinv⟩ := hinv
    obtain ⟨u97, hinv⟩ := hinv
    obtain ⟨u98, hinv⟩ := hinv
    obtain ⟨u99, hinv⟩ := hinv
    obtain ⟨u100, hinv⟩ := hinv
    obtain ⟨hrel, ha⟩ := hinv
    subst ha
    intro _ _ _ _
    obtain ⟨c, bs', hc, rfl, rfl, hD, hO⟩ := hrel
    clear H0
    have hst := Sig.reduce_succ t c
    obtain ⟨hI, htl⟩ := Sig.inv_reduce HR.out c (by omega)
    generalize hrc : Sig.reduce t c = tc at hst hI htl hD hO
    obtain ⟨t', ps⟩ := tc
    simp only at hst hI htl hD hO
    have HRC := Aside0.mk hrc
    clear hrc
    have HD := Aside0.mk hD
    have HO := Aside0.mk hO
    have HI := Aside0.mk hI
    have HST := Aside0.mk hst
    have HTL := Aside0.mk htl
    obtain ⟨pA, pc, rfl⟩ := own_len hO
    have hbox := hD.box
    have hB2 := hbox.lt
    have e2 := hbox.1
    have hps := hI.few
    rw [htl] at hps
    clear hD hO hI hst htl hbox
    by_cases hcm : c < many
    · have f1 : decide ((c : Int) < (many : Int)) = true := decide_eq_true (by omega)
      gi_wp2
      obtain ⟨W0, hW0⟩ : ∃ W0, wo.alloc (.cells #[.int .i64 (ps.length : Int)] 3) = W0 := ⟨_, rfl⟩
      rw [hW0]
      have hb0 : Below wo.heap.size wo W0 := by rw [← hW0]; exact (Below.refl _ _).alloc (Nat.le_refl _) _
      have hr0 : Bx W0 wo.heap.size (.int .i64 (ps.length : Int)) := by rw [← hW0]; exact Bx.new _ _ _
      have HD0 := Aside0.mk (HD.out.below hb0)
      have HO0 := Aside0.mk (own_below HO.out hb0)
      have e2' := HD0.out.box.1
      have e6 := hr0.1
      have HR0 := Aside0.mk hr0
      clear HD HO e2 hW0 hb0 hr0
      gi_loopg [7] (t.length - ps.length) (fun gk v7 w7 => ∃ k : Nat, ps.length ≤ k ∧ k ≤ t.length ∧ gk = t.length - k ∧ v7 = .int .i64 (k : Int) ∧ Sig.find t' c k = Sig.find t' c ps.length ∧ w7 = W0)
      case atStart => exact ⟨ps.length, Nat.le_refl _, hps, rfl, rfl, rfl, rfl⟩
      case round =>
        obtain ⟨k, hk1, hk2, rfl, rfl, hf, hwe⟩ := hrel
        subst hwe
        have HF := Aside0.mk hf
        clear hf
        by_cases hk : k < t.length
        · have hk' : k < t'.length := by rw [HTL.out]; exact hk
          have hrl := (HI.out.rect _ (Sig.getD_mem hk')).1
          obtain ⟨⟨ck, m1, m2⟩, m3⟩ := HD0.out.tab.main k hk'
          obtain ⟨q1, q2⟩ := HD0.out.tab.rows k hk' c (by rw [hrl]; omega)
          have q0 : (t'.getD k []).getD c 0 = Sig.ent t' k c := rfl
          rw [q0] at q1
          rw [hrl] at m1 m2
          obtain ⟨bk, hbk⟩ : ∃ bk, bk = bs'.getD k 0 := ⟨_, rfl⟩
          rw [← hbk] at m2 q1 q2
          obtain ⟨x, hx⟩ : ∃ x, x = Sig.ent t' k c := ⟨_, rfl⟩
          rw [← hx] at q1
          have HX := Aside0.mk hx
          have HBK := Aside0.mk hbk
          have HRL := Aside0.mk hrl
          have f2 : decide ((k : Int) < (t.length : Int)) = true := decide_eq_true (by omega)
          have f3 : (0 : Int) ≤ (k : Int) := by omega
          have f4 : (k : Int) < (t.length : Int) := by omega
          have f5 : decide (k < t.length) = true := decide_eq_true hk
          have f6 : (0 : Int) ≤ (c : Int) := by omega
          have f7 : (c : Int) < (n : Int) := by omega
          have f8 : decide (c < n) = true := decide_eq_true (by omega)
          have f9 : ((k : Int) == (t.length : Int)) = false := beq_eq_false_iff_ne.2 (by omega)
          clear hx hbk hrl q0 m3 q2
          by_cases hz : x = 0
          · have hzb : (x == 0) = true := beq_iff_eq.2 hz
            have HZ := Aside0.mk hz
            clear hz
            gi_wp2
            gi_roundg (t.length - (k + 1))
            case measure => omega
            case rel => exact ⟨k + 1, by omega, by omega, rfl, by go_num, (Sig.find_step hk' (HX.out.symm.trans HZ.out)).symm.trans HF.out, rfl⟩
          · have hzb : (x == 0) = false := beq_eq_false_iff_ne.2 hz
            have HZ := Aside0.mk hz
            clear hz
            gi_wp2
            have hr' : ps.length < t'.length := by rw [HTL.out]; omega
            have hrT : ps.length < t.length := by omega
            have hkT := hk
            obtain ⟨⟨cr, l1, n1⟩, z3⟩ := HD0.out.tab.main ps.length hr'
            have z4 := (HD0.out.tab.main k hk').2
            have hrr := (HI.out.rect _ (Sig.getD_mem hr')).1
            rw [hrr] at l1 n1
            have g1 : (0 : Int) ≤ (ps.length : Int) := by omega
            have g2 : (ps.length : Int) < (t.length : Int) := by omega
            have g3 : decide (ps.length < t.length) = true := decide_eq_true hrT
            obtain ⟨br, hbr⟩ : ∃ br, br = bs'.getD ps.length 0 := ⟨_, rfl⟩
            rw [← hbr] at n1
            have HBR := Aside0.mk hbr
            have HRR := Aside0.mk hrr
            clear hbr hrr q1
            refine region_only (fun K' hK' => ?_)
            refine start_ (n := 16) (S := fun w' => w'.cell? ⟨w.heap.size, 0, none⟩ = some (.slice (some ⟨g, 0, none⟩) t.length cap) ∧ w'.cell? ⟨wo.heap.size, 0, none⟩ = some (.int .i64 (ps.length : Int)) ∧ w'.cell? ⟨g, k, none⟩ = some (.slice (some ⟨bk, 0, none⟩) n ck) ∧ w'.cell? ⟨g, ps.length, none⟩ = some (.slice (some ⟨br, 0, none⟩) n cr)) (ds := [13, 15]) #[false, false, false, false, false, false, false, false, false, false, false, false, false, false, false, false] (by kernel_rfl) rfl rfl ⟨e2', e6, m2, n1⟩ (fun hHeld => ?_)
            have hW3 : Below wr.heap.size wr wr.drew := (Below.refl _ _).drew
            generalize wr.drew = W3 at hHeld hW3 ⊢
            obtain ⟨W4, hW4⟩ : ∃ W4, W3.setCell ⟨g, ps.length, none⟩ (.slice (some ⟨bk, 0, none⟩) n ck) = W4 := ⟨_, rfl⟩
            obtain ⟨W5, hW5⟩ : ∃ W5, W4.setCell ⟨g, k, none⟩ (.slice (some ⟨br, 0, none⟩) n cr) = W5 := ⟨_, rfl⟩
            have y3 : W3.frozen? ⟨g, ps.length, none⟩ = false := (hW3.frozen (p := ⟨g, ps.length, none⟩) (World.block_lt_of_cell? wr _ n1)).trans z3
            have y4 : W4.frozen? ⟨g, k, none⟩ = false := by rw [← hW4, World.frozen?_setCell]; exact (hW3.frozen (p := ⟨g, k, none⟩) (World.block_lt_of_cell? wr _ m2)).trans z4
            obtain ⟨vk, y5⟩ : ∃ vk, W4.cell? ⟨g, k, none⟩ = some vk := by
              rw [← hW4]
              by_cases e : ps.length = k
              · subst e; exact ⟨_, World.cell?_setCell_same' _ _ _ (by rw [hHeld.2.2.1]; rfl)⟩
              · exact ⟨_, (World.cell?_setCell_other W3 ⟨g, ps.length, none⟩ ⟨g, k, none⟩ _ (by intro e3; injection e3 with _ e3; exact e e3)).trans hHeld.2.2.1⟩
            have y6 : W4.cell? ⟨w.heap.size, 0, none⟩ = some (.slice (some ⟨g, 0, none⟩) t.length cap) := by
              rw [← hW4]; exact (World.cell?_setCell_far W3 ⟨g, ps.length, none⟩ ⟨w.heap.size, 0, none⟩ _ (by simp only; omega)).trans hHeld.1
            have HW4 := Aside0.mk hW4
            have HW5 := Aside0.mk hW5
            have HN := Aside0.mk n1
            have HM := Aside0.mk m2
            have HWB := Aside0.mk hW3
            clear e2' e6 m2 n1 z3 z4 hW4 hW5 hW3
            refine take_ (i := 0) (N := some 40) (v := ?_) (a' := ?_) #[true, false, false, false, false, false, false, false, false, false, false, false, false, false, false, false] rfl rfl (by kernel_rfl) (fun _ _ _ h => h) (Or.inl ⟨by rfl, ?_⟩) hHeld ?_ ?_
            rotate_left
            · rintro w' ⟨s0, s1, s2, s3⟩
              go_simp
              with_reducible rfl
            rotate_left
            · simp only [Act.put, List.setIfInBounds_toArray, List.set_cons_zero, List.set_cons_succ, i64_w, i32_w]
              rfl
            refine take_ (i := 1) (N := some 41) (v := ?_) (a' := ?_) #[true, true, false, false, false, false, false, false, false, false, false, false, false, false, false, false] rfl rfl (by kernel_rfl) (fun _ _ _ h => h) (Or.inl ⟨by rfl, ?_⟩) hHeld ?_ ?_
            rotate_left
            · rintro w' ⟨s0, s1, s2, s3⟩
              go_simp
              with_reducible rfl
            rotate_left
            · simp only [Act.put, List.setIfInBounds_toArray, List.set_cons_zero, List.set_cons_succ, i64_w, i32_w]
              rfl
            refine take_ (i := 4) (N := some 44) (v := ?_) (a' := ?_) #[true, true, false, false, true, false, false, false, false, false, false, false, false, false, false, false] rfl rfl (by kernel_rfl) (fun _ _ _ h => h) (Or.inl ⟨by rfl, ?_⟩) hHeld ?_ ?_
            rotate_left
            · rintro w' ⟨s0, s1, s2, s3⟩
              go_simp
              with_reducible rfl
            rotate_left
            · simp only [Act.put, List.setIfInBounds_toArray, List.set_cons_zero, List.set_cons_succ, i64_w, i32_w]
              rfl
            refine pure_ (i := 5) (N := some 45) (v := ?_) (a' := ?_) #[true, true, false, false, true, true, false, false, false, false, false, false, false, false, false, false] rfl rfl (by kernel_rfl) (fun _ _ _ h => h) (Or.inl ⟨by rfl, ?_⟩) ?_ ?_
            rotate_left
            · intro w'
              go_simp
              with_reducible rfl
            rotate_left
            · simp only [Act.put, List.setIfInBounds_toArray, List.set_cons_zero, List.set_cons_succ, i64_w, i32_w]
              rfl
            refine pure_ (i := 6) (N := some 46) (v := ?_) (a' := ?_) #[true, true, false, false, true, true, true, false, false, false, false, false, false, false, false, false] rfl rfl (by kernel_rfl) (fun _ _ _ h => h) (Or.inl ⟨by rfl, ?_⟩) ?_ ?_
            rotate_left
            · intro w'
              go_simp
              with_reducible rfl
            rotate_left
            · simp only [Act.put, List.setIfInBounds_toArray, List.set_cons_zero, List.set_cons_succ, i64_w, i32_w]
              rfl
            refine take_ (i := 7) (N := some 47) (v := ?_) (a' := ?_) #[true, true, false, false, true, true, true, true, false, false, false, false, false, false, false, false] rfl rfl (by kernel_rfl) (fun _ _ _ h => h) (Or.inl ⟨by rfl, ?_⟩) hHeld ?_ ?_
            rotate_left
            · rintro w' ⟨s0, s1, s2, s3⟩
              go_simp
              with_reducible rfl
            rotate_left
            · simp only [Act.put, List.setIfInBounds_toArray, List.set_cons_zero, List.set_cons_succ, i64_w, i32_w]
              rfl
            refine take_ (i := 8) (N := some 48) (v := ?_) (a' := ?_) #[true, true, false, false, true, true, true, true, true, false, false, false, false, false, false, false] rfl rfl (by kernel_rfl) (fun _ _ _ h => h) (Or.inl ⟨by rfl, ?_⟩) hHeld ?_ ?_
            rotate_left
            · rintro w' ⟨s0, s1, s2, s3⟩
              go_simp
              with_reducible rfl
            rotate_left
            · simp only [Act.put, List.setIfInBounds_toArray, List.set_cons_zero, List.set_cons_succ, i64_w, i32_w]
              rfl
            refine take_ (i := 9) (N := some 49) (v := ?_) (a' := ?_) #[true, true, false, false, true, true, true, true, true, true, false, false, false, false, false, false] rfl rfl (by kernel_rfl) (fun _ _ _ h => h) (Or.inl ⟨by rfl, ?_⟩) hHeld ?_ ?_
            rotate_left
            · rintro w' ⟨s0, s1, s2, s3⟩
              go_simp
              with_reducible rfl
            rotate_left
            · simp only [Act.put, List.setIfInBounds_toArray, List.set_cons_zero, List.set_cons_succ, i64_w, i32_w]
              rfl
            refine pure_ (i := 10) (N := some 50) (v := ?_) (a' := ?_) #[true, true, false, false, true, true, true, true, true, true, true, false, false, false, false, false] rfl rfl (by kernel_rfl) (fun _ _ _ h => h) (Or.inl ⟨by rfl, ?_⟩) ?_ ?_
            rotate_left
            · intro w'
              go_simp
              with_reducible rfl
            rotate_left
            · simp only [Act.put, List.setIfInBounds_toArray, List.set_cons_zero, List.set_cons_succ, i64_w, i32_w]
              rfl
            refine take_ (i := 11) (N := some 51) (v := ?_) (a' := ?_) #[true, true, false, false, true, true, true, true, true, true, true, true, false, false, false, false] rfl rfl (by kernel_rfl) (fun _ _ _ h => h) (Or.inl ⟨by rfl, ?_⟩) hHeld ?_ ?_
            rotate_left
            · rintro w' ⟨s0, s1, s2, s3⟩
              go_simp
              with_reducible rfl
            rotate_left
            · simp only [Act.put, List.setIfInBounds_toArray, List.set_cons_zero, List.set_cons_succ, i64_w, i32_w]
              rfl
            refine pure_ (i := 12) (N := some 52) (v := ?_) (a' := ?_) #[true, true, false, false, true, true, true, true, true, true, true, true, true, false, false, false] rfl rfl (by kernel_rfl) (fun _ _ _ h => h) (Or.inl ⟨by rfl, ?_⟩) ?_ ?_
            rotate_left
            · intro w'
              go_simp
              with_reducible rfl
            rotate_left
            · simp only [Act.put, List.setIfInBounds_toArray, List.set_cons_zero, List.set_cons_succ, i64_w, i32_w]
              rfl
            refine pure_ (i := 3) (N := some 43) (v := ?_) (a' := ?_) #[true, true, false, true, true, true, true, true, true, true, true, true, true, false, false, false] rfl rfl (by kernel_rfl) (fun _ _ _ h => h) (Or.inl ⟨by rfl, ?_⟩) ?_ ?_
            rotate_left
            · intro w'
              go_simp
              with_reducible rfl
            rotate_left
            · simp only [Act.put, List.setIfInBounds_toArray, List.set_cons_zero, List.set_cons_succ, i64_w, i32_w]
              rfl
            refine fork_ (i := 2) (j := 13) (N := 42) (v := .slice (some ⟨g, 0, none⟩) t.length cap) (w1 := W4) (a' := ?fa) #[true, true, true, true, true, true, true, true, true, true, true, true, true, false, false, false] #[true, true, false, true, true, true, true, true, true, true, true, true, true, true, false, false] #[true, true, true, true, true, true, true, true, true, true, true, true, true, true, false, false] rfl rfl rfl rfl (by decide) (by kernel_rfl) (Or.inl ⟨by rfl, ?hy⟩) (by rfl) ?hs1 ?ha ?hw2 ?hs2 ?h
            case ha =>
              simp only [Act.put, List.setIfInBounds_toArray, List.set_cons_zero, List.set_cons_succ, i64_w, i32_w]
              rfl
            case hw2 => rfl
            case hs1 =>
              go_simp
              exact HW4.out
            case hs2 =>
              go_simp
              exact HW4.out
            case hy =>
              rintro w' (rfl | rfl)
              · obtain ⟨s0, s1, s2, s3⟩ := hHeld
                go_simp
              · go_simp
            refine pure_ (i := 14) (N := some 53) (v := ?_) (a' := ?_) #[true, true, true, true, true, true, true, true, true, true, true, true, true, true, true, false] rfl rfl (by kernel_rfl) (fun _ _ _ h => h) (Or.inl ⟨by rfl, ?_⟩) ?_ ?_
            rotate_left
            · intro w'
              go_simp
              with_reducible rfl
            rotate_left
            · simp only [Act.put, List.setIfInBounds_toArray, List.set_cons_zero, List.set_cons_succ, i64_w, i32_w]
              rfl
            refine last_ (i := 15) (N := none) #[true, true, true, true, true, true, true, true, true, true, true, true, true, true, true, true] rfl rfl (by kernel_rfl) (by decide) (fun K hK => ?_)
            refine skip_ (w1 := ?_) (by rfl) rfl ?_ ?_
            rotate_left
            · go_simp
              rfl
            refine hK.out _ _ ?_
            clear hK K
            rw [HW5.out]
            refine done_ (by kernel_rfl) ?_
            show K' _ _
            refine hK' _ _ ?_
            have HD5 : Aside0 (RD w base g S t.length (.slice (some ⟨g, 0, none⟩) t.length cap) ((bs'.set ps.length (bs'.getD k 0)).set k (bs'.getD ps.length 0)) ((t'.set ps.length (t'.getD k [])).set k (t'.getD ps.length [])) ds W5) := Aside0.mk (by
              rw [← HW5.out, ← HW4.out, HBK.out, HBR.out]
              exact (HD0.out.below HWB.out).swap hrT hk HRR.out HRL.out (by rw [← HBR.out]; exact hHeld.2.2.2) (by rw [← HBK.out]; exact hHeld.2.2.1) l1 m1)
            have hgw := HD5.out.slt g HD5.out.sg
            have HR5 : Aside0 (Bx W5 wo.heap.size (.int .i64 (ps.length : Int))) := Aside0.mk (by
              rw [← HW5.out, ← HW4.out]
              exact ((HR0.out.below HWB.out).far (c := g) (by omega) _ _).far (c := g) (by omega) _ _)
            have HO5 : Aside0 (W5.ownsRow (w.heap.size + 1) 3 1 (.slice pA ps.length pc) ps.length (nums .i64 (ps.map fun (p : Nat) => (p : Int)))) := Aside0.mk (by
              rw [← HW5.out, ← HW4.out]
              exact own_far (own_far (own_below HO0.out HWB.out) (by omega) _) (by omega) _)
            clear hHeld HWB HN HM y3 y4 y5 y6 HD0 HO0 HR0 HW4 HW5
            clear W3 W4
            have hx0 := HX.out
            obtain ⟨b1, hb1⟩ : ∃ b1, b1 = (bs'.set ps.length (bs'.getD k 0)).set k (bs'.getD ps.length 0) := ⟨_, rfl⟩
            rw [← hb1] at HD5
            obtain ⟨t1, ht1⟩ : ∃ t1, t1 = (t'.set ps.length (t'.getD k [])).set k (t'.getD ps.length []) := ⟨_, rfl⟩
            rw [← ht1] at HD5
            have hrow : t1.getD ps.length [] = t'.getD k [] := by rw [ht1]; exact swap_at hr' hk'
            have HT1 := Aside0.mk ht1
            have HROW := Aside0.mk hrow
            have h1l := HD5.out.tlen
            have hr1 : ps.length < t1.length := by rw [h1l]; exact hrT
            obtain ⟨⟨c1, p1, p2⟩, p3⟩ := HD5.out.tab.main ps.length hr1
            obtain ⟨p4, p5⟩ := HD5.out.tab.rows ps.length hr1 c (by rw [hrow, HRL.out]; omega)
            have p6 : (t1.getD ps.length []).getD c 0 = x := by rw [hrow]; exact hx0.symm
            rw [p6] at p4
            rw [hrow, HRL.out] at p1 p2
            obtain ⟨bp, hbp⟩ : ∃ bp, bp = b1.getD ps.length 0 := ⟨_, rfl⟩
            rw [← hbp] at p2 p4 p5
            have HBP := Aside0.mk hbp
            have hInF : Sig.InF x := by rw [hx0]; exact Sig.ent_inF HI.out.rect k c
            have HFI : Aside0 (field_Inverse.f x = some (Sig.finv x, 0)) := Aside0.mk (by
              unfold field_Inverse.f
              rw [if_neg (by have := HZ.out; unfold Sig.InF at hInF; omega)])
            have e2 := HD5.out.box.1
            have e6 := HR5.out.1
            have v1 := HD5.out.box.lt
            have v2 := HR5.out.lt
            have v3 : g < W5.heap.size := by omega
            clear hx0 hb1 ht1 hrow h1l p3 p5 p6 hbp hInF
            gi_wp2_with (first | (refine ⟨trivial, ?_⟩; gi_at_call 123; refine (callsIn_wide.2 (field_Inverse.calls x (Sig.finv x) 0 _ HFI.out)).mono ?_; rintro e w5 ⟨rfl, ⟨nd, hnd⟩⟩; have hdr : Below W5.heap.size W5 w5 := (by rw [hnd]; exact pw_below_drewN (Below.refl _ _) nd); have HDW := Aside0.mk hdr; have v4 : w.heap.size < w5.heap.size := Nat.lt_of_lt_of_le v1 hdr.size; have v5 : wo.heap.size < w5.heap.size := Nat.lt_of_lt_of_le v2 hdr.size; have v6 : g < w5.heap.size := Nat.lt_of_lt_of_le v3 hdr.size; replace e2 := (hdr.cell (p := ⟨w.heap.size, 0, none⟩) v1).trans e2; replace e6 := (hdr.cell (p := ⟨wo.heap.size, 0, none⟩) v2).trans e6; replace p2 := (hdr.cell (p := ⟨g, ps.length, none⟩) v3).trans p2; clear hnd hdr v1 v2 v3 p4) | (refine ⟨trivial, ?_⟩; gi_at_call 185; refine (callsIn_wide.2 (after_c _ _ _ _ _)).mono ?_; rintro e w' ⟨rfl, rfl⟩))
            obtain ⟨W6, hW6⟩ : ∃ W6, ((w5.alloc (.cells #[.int .i64 (Sig.finv x)] 3)).alloc (.cells #[.slice (some ⟨bp, 0, none⟩) n c1] 23)).alloc (.cells #[.int .i64 (c : Int)] 3) = W6 := ⟨_, rfl⟩
            rw [hW6]
            have z6 : W6.heap.size = w5.heap.size + 1 + 1 + 1 := by rw [← hW6]; simp
            have hB6 : Below w5.heap.size w5 W6 := by rw [← hW6]; exact (((Below.refl _ w5).alloc (Nat.le_refl _) _).alloc (by simp) _).alloc (by simp; omega) _
            have b8 : Bx W6 w5.heap.size (.int .i64 (Sig.finv x)) := by
              rw [← hW6]; exact ((Bx.new w5 _ _).alloc _).alloc _
            have b9 : Bx W6 (w5.heap.size + 1) (.slice (some ⟨bp, 0, none⟩) n c1) := by
              rw [← hW6]; have := (Bx.new (w5.alloc (.cells #[.int .i64 (Sig.finv x)] 3)) (.slice (some ⟨bp, 0, none⟩) n c1) 23).alloc (.cells #[.int .i64 (c : Int)] 3); simpa using this
            have b10 : Bx W6 (w5.heap.size + 1 + 1) (.int .i64 (c : Int)) := by
              rw [← hW6]; have := Bx.new ((w5.alloc (.cells #[.int .i64 (Sig.finv x)] 3)).alloc (.cells #[.slice (some ⟨bp, 0, none⟩) n c1] 23)) (.int .i64 (c : Int)) 3; simpa using this
            have HD6 := Aside0.mk ((HD5.out.below HDW.out).below hB6)
            have HR6 := Aside0.mk ((HR5.out.below HDW.out).below hB6)
            have HO6 := Aside0.mk (own_below (own_below HO5.out HDW.out) hB6)
            have HB8 := Aside0.mk b8
            have HB9 := Aside0.mk b9
            have HB10 := Aside0.mk b10
            have HZ6 := Aside0.mk z6
            clear hB6 b8 b9 b10 z6 hW6 e2 e6 p2 HD5 HR5 HO5 HDW
            have hbpl : bp < w.heap.size := by rw [HBP.out]; exact HD6.out.slt _ (HD6.out.low _ hrT)
            obtain ⟨ar, har⟩ : ∃ ar, ar = t1.getD ps.length [] := ⟨_, rfl⟩
            have hal : ar.length = n := by rw [har, HROW.out]; exact HRL.out
            have haI : ∀ y ∈ ar, Sig.InF y := by rw [har, HROW.out]; exact (HI.out.rect _ (Sig.getD_mem hk')).2
            have haz : ∀ d, d < c → ar.getD d 0 = 0 := fun d hd => by rw [har, HROW.out]; exact HI.out.zero k d hk1 hk' hd
            obtain ⟨L, hL⟩ : ∃ L, L = Sig.times ar (Sig.finv x) := ⟨_, rfl⟩
            have hLL : L.length = n := by rw [hL, Sig.times_length]; exact hal
            have hLx : ∀ j, L.getD j 0 = ar.getD j 0 * Sig.finv x % 1073741789 := fun j => by rw [hL]; exact Sig.times_getD _ _ _
            have h0 : CJ W6 base g b1 t1 ps.length ar L c W6 := ⟨by rw [hL, times_start haI haz, har, set_self_row]; exact HD6.out.tab, Chg.refl _ _⟩
            have H0 := Aside0.mk h0
            have HAL := Aside0.mk hal
            have HLL := Aside0.mk hLL
            have HLX := Aside0.mk hLx
            have HAR := Aside0.mk har
            have HL := Aside0.mk hL
            clear h0 hal hLL hLx har hL haI haz
            refine range_all (by omega) rfl (enters_of Try.func206 (by kernel_rfl) rfl) (CJ W6 base g b1 t1 ps.length ar L) c (fun j => j = n)
              (fun j vs j' => j < n ∧ vs = #[.int .i64 (j : Int), .int .i64 (ar.getD j 0)] ∧ j' = j + 1) ?_ H0.out ?_ ?_ ?_ ?_
            · exact CJ.own _ _ _ _ _ _ _ _ (Nat.le_refl _)
            · rintro j vs j' ⟨_, rfl, _⟩; rfl
            · intro l W2 J _ hJI hJ hY hj0
              refine (after1_in (l := l) (J := J) (bcol := w5.heap.size + 1 + 1) (brow := w5.heap.size + 1) (br := bp) (col := c) (L := n) (cap := c1) (x := fun j => ar.getD j 0) (by omega) (fun j W hj => ?_) (fun j W hj0 hj => hY j _ _ W ⟨hj0, rfl, rfl⟩ hj) (by omega) W2 hj0).mono (fun e W' h => ⟨h.1, n, rfl, h.2⟩)
              obtain ⟨hT2, hC2⟩ := hJI j W hj
              rw [← HBP.out] at hC2
              refine ⟨HB10.out.chg hC2 (by omega), HB9.out.chg hC2 (by omega), fun hjn => ?_⟩
              have hr := hT2.rows ps.length (by simpa using hr1)
              rw [getD_set_row hr1, if_pos rfl, ← HBP.out] at hr
              have := (hr j (by rw [mixRow_length (HAL.out.trans HLL.out.symm), HAL.out]; exact hjn)).1
              rw [mixRow_at (HAL.out.trans HLL.out.symm) (by rw [HAL.out]; exact hjn), if_neg (by omega)] at this
              exact this
            · rintro l j vs j' W ⟨hjn, rfl, rfl⟩ hI
              have HI2 := Aside0.mk hI
              clear hI
              have hLj := HLX.out j
              obtain ⟨xj, hxj⟩ : ∃ xj, xj = ar.getD j 0 := ⟨_, rfl⟩
              rw [← hxj] at hLj ⊢
              have HXJ := Aside0.mk hxj
              have HLJ := Aside0.mk hLj
              clear hxj hLj
              gi_wp2
              refine ⟨KeepsFrom.refl _ _, HI2.out, ?_⟩
              clear HI2
              rintro W2 ⟨hT2, hC2⟩
              have hmr : ((t1.set ps.length (mixRow ar L j)).getD ps.length []) = mixRow ar L j := by rw [getD_set_row hr1, if_pos rfl]
              have hml : (mixRow ar L j).length = n := by rw [mixRow_length (HAL.out.trans HLL.out.symm)]; exact HAL.out
              obtain ⟨⟨cr2, m1', m2⟩, _⟩ := hT2.main ps.length (by simpa using hr1)
              obtain ⟨q1, q2⟩ := hT2.rows ps.length (by simpa using hr1) j (by rw [hmr, hml]; exact hjn)
              rw [hmr, hml, ← HBP.out] at m2
              rw [hmr, mixRow_at (HAL.out.trans HLL.out.symm) (by rw [HAL.out]; exact hjn), if_neg (by omega), ← HXJ.out, ← HBP.out] at q1
              rw [← HBP.out] at q2
              have hCB := hC2
              rw [← HBP.out] at hCB
              have hbk := World.block_lt_of_cell? W2 _ q1
              have e2 := (HD6.out.box.chg hCB (by omega)).1
              have e6 := (HR6.out.chg hCB (by omega)).1
              have e8 := (HB8.out.chg hCB (by omega)).1
              have HT2 := Aside0.mk hT2
              have HC2 := Aside0.mk hC2
              have HMR := Aside0.mk hmr
              have HML := Aside0.mk hml
              have d1 : (0 : Int) ≤ (j : Int) := by omega
              have d2 : (j : Int) < (n : Int) := by omega
              have d3 : decide (j < n) = true := decide_eq_true hjn
              clear hT2 hC2 hCB hmr hml m1'
              gi_wp2
              refine startIn_ (n := 10) (S := fun w' => w'.cell? ⟨w.heap.size, 0, none⟩ = some (.slice (some ⟨g, 0, none⟩) t.length cap) ∧ w'.cell? ⟨wo.heap.size, 0, none⟩ = some (.int .i64 (ps.length : Int)) ∧ w'.cell? ⟨g, ps.length, none⟩ = some (.slice (some ⟨bp, 0, none⟩) n cr2) ∧ w'.cell? ⟨w5.heap.size, 0, none⟩ = some (.int .i64 (Sig.finv x))) (ds := [9]) #[false, false, false, false, false, false, false, false, false, false] (by kernel_rfl) rfl rfl (by kernel_rfl) (fun h => by obtain ⟨_, _, h⟩ := h; exact h) ⟨e2, e6, m2, e8⟩ (fun hHeld => ?_)
              have hW2d : Below W2.heap.size W2 W2.drew := (Below.refl _ _).drew
              generalize W2.drew = W3 at hHeld hW2d ⊢
              have q3 : W3.cell? ⟨bp, j, none⟩ = some (.int .i64 xj) := (hW2d.cell (p := ⟨bp, j, none⟩) hbk).trans q1
              clear e2 e6 e8 m2 q1
              refine take_ (i := 0) (N := some 73) (v := ?_) (a' := ?_) #[true, false, false, false, false, false, false, false, false, false] rfl rfl (by kernel_rfl) (fun _ _ _ h => h) (Or.inl ⟨by rfl, ?_⟩) hHeld ?_ ?_
              rotate_left
              · rintro w' ⟨s0, s1, s2, s3⟩
                go_simp
                with_reducible rfl
              rotate_left
              · simp only [Act.put, List.setIfInBounds_toArray, List.set_cons_zero, List.set_cons_succ, i64_w, i32_w]
                rfl
              refine take_ (i := 1) (N := some 74) (v := ?_) (a' := ?_) #[true, true, false, false, false, false, false, false, false, false] rfl rfl (by kernel_rfl) (fun _ _ _ h => h) (Or.inl ⟨by rfl, ?_⟩) hHeld ?_ ?_
              rotate_left
              · rintro w' ⟨s0, s1, s2, s3⟩
                go_simp
                with_reducible rfl
              rotate_left
              · simp only [Act.put, List.setIfInBounds_toArray, List.set_cons_zero, List.set_cons_succ, i64_w, i32_w]
                rfl
              refine pure_ (i := 2) (N := some 75) (v := ?_) (a' := ?_) #[true, true, true, false, false, false, false, false, false, false] rfl rfl (by kernel_rfl) (fun _ _ _ h => h) (Or.inl ⟨by rfl, ?_⟩) ?_ ?_
              rotate_left
              · intro w'
                go_simp
                with_reducible rfl
              rotate_left
              · simp only [Act.put, List.setIfInBounds_toArray, List.set_cons_zero, List.set_cons_succ, i64_w, i32_w]
                rfl
              refine take_ (i := 3) (N := some 76) (v := ?_) (a' := ?_) #[true, true, true, true, false, false, false, false, false, false] rfl rfl (by kernel_rfl) (fun _ _ _ h => h) (Or.inl ⟨by rfl, ?_⟩) hHeld ?_ ?_
              rotate_left
              · rintro w' ⟨s0, s1, s2, s3⟩
                go_simp
                with_reducible rfl
              rotate_left
              · simp only [Act.put, List.setIfInBounds_toArray, List.set_cons_zero, List.set_cons_succ, i64_w, i32_w]
                rfl
              refine pure_ (i := 4) (N := some 77) (v := ?_) (a' := ?_) #[true, true, true, true, true, false, false, false, false, false] rfl rfl (by kernel_rfl) (fun _ _ _ h => h) (Or.inl ⟨by rfl, ?_⟩) ?_ ?_
              rotate_left
              · intro w'
                go_simp
                with_reducible rfl
              rotate_left
              · simp only [Act.put, List.setIfInBounds_toArray, List.set_cons_zero, List.set_cons_succ, i64_w, i32_w]
                rfl
              refine pure_ (i := 5) (N := some 78) (v := ?_) (a' := ?_) #[true, true, true, true, true, true, false, false, false, false] rfl rfl (by kernel_rfl) (fun _ _ _ h => h) (Or.inl ⟨by rfl, ?_⟩) ?_ ?_
              rotate_left
              · intro w'
                go_simp
                with_reducible rfl
              rotate_left
              · simp only [Act.put, List.setIfInBounds_toArray, List.set_cons_zero, List.set_cons_succ, i64_w, i32_w]
                rfl
              refine take_ (i := 6) (N := some 79) (v := ?_) (a' := ?_) #[true, true, true, true, true, true, true, false, false, false] rfl rfl (by kernel_rfl) (fun _ _ _ h => h) (Or.inl ⟨by rfl, ?_⟩) hHeld ?_ ?_
              rotate_left
              · rintro w' ⟨s0, s1, s2, s3⟩
                go_simp
                with_reducible rfl
              rotate_left
              · simp only [Act.put, List.setIfInBounds_toArray, List.set_cons_zero, List.set_cons_succ, i64_w, i32_w]
                rfl
              refine one_ (i := 7) (N := some 80) #[true, true, true, true, true, true, true, true, false, false] rfl rfl (by kernel_rfl) (by decide) (fun K hK => ?_)
              refine goes_ Try.func65 (by kernel_rfl) rfl #[.int .i64 xj, .int .i64 (Sig.finv x)] (by rfl) rfl rfl (by (try simp only [List.map_toArray, List.map_cons, List.map_nil]); first | done | rfl) ?_
              refine (mul_c _ _ _).mono ?_
              rintro e w' ⟨rfl, ⟨nd, rfl⟩⟩
              refine ⟨_, rfl, hK.out _ _ ⟨pw_cell_below (pw_below_drewN (Below.refl _ _) _) hHeld.1, pw_cell_below (pw_below_drewN (Below.refl _ _) _) hHeld.2.1, pw_cell_below (pw_below_drewN (Below.refl _ _) _) hHeld.2.2.1, pw_cell_below (pw_below_drewN (Below.refl _ _) _) hHeld.2.2.2⟩ (fun hHeld => ?_)⟩
              clear hK K
              refine pure_ (i := 8) (N := some 81) (v := ?_) (a' := ?_) #[true, true, true, true, true, true, true, true, true, false] rfl rfl (by kernel_rfl) (fun _ _ _ h => h) (Or.inl ⟨by rfl, ?_⟩) ?_ ?_
              rotate_left
              · intro w'
                go_simp
                with_reducible rfl
              rotate_left
              · simp only [Act.put, List.setIfInBounds_toArray, List.set_cons_zero, List.set_cons_succ, i64_w, i32_w]
                rfl
              have hW5 := below_then hW2d hW2d.size (pw_below_drewN (Below.refl _ _) nd)
              have hfz : (W3.drewN nd).frozen? ⟨bp, j, none⟩ = false := (hW5.frozen (p := ⟨bp, j, none⟩) hbk).trans q2
              refine last_ (i := 9) (N := none) #[true, true, true, true, true, true, true, true, true, true] rfl rfl (by kernel_rfl) (by decide) (fun K hK => ?_)
              refine skip_ (w1 := ?_) (by rfl) rfl ?_ ?_
              rotate_left
              · go_simp
                rfl
              refine hK.out _ _ ?_
              clear hK K
              refine done_ (by kernel_rfl) ?_
              refine ⟨?_, ?_⟩
              · exact ((keeps_below hW5).trans (KeepsOthers.setCell _ _ _)).from _
              · have hT5 := (HT2.out.below hW5).put (i := ps.length) (j := j) (by simpa using hr1) (by rw [HMR.out, HML.out]; exact hjn) (L.getD j 0)
                rw [HMR.out, mixRow_set (HAL.out.trans HLL.out.symm) (by rw [HAL.out]; exact hjn), List.set_set, ← HBP.out] at hT5
                rw [← HLJ.out]
                exact ⟨hT5, (HC2.out.then_below hW5).then_set (.inl HBP.out) _⟩
            · rintro D j W hD hjn ⟨hT2, hC2⟩ hK
              rw [hjn] at hT2
              clear hjn j H0
              have hmx : t1.set ps.length (mixRow ar L n) = elim (scaled t' ps.length k c) ps.length c 0 := by
                rw [← HAL.out, mixRow_all (HAL.out.trans HLL.out.symm), HL.out, HAR.out, HROW.out, HT1.out, HX.out]; rfl
              rw [hmx] at hT2
              have hsl : (scaled t' ps.length k c).length = t.length := by rw [show (scaled t' ps.length k c).length = t'.length by simp [scaled]]; exact HTL.out
              have h7 := HD6.out.out hrT hT2 (by rw [elim_length]; exact hsl) hC2
              have hCB := hC2
              rw [← HBP.out] at hCB
              have HD7 := Aside0.mk (h7.mark (HD6.out.marks.cons (D := D) (Nat.le_trans (Nat.le_of_lt HD6.out.box.lt) hD) hK hD (fun D' hb' hD' => (hC2.block D' (Array.getElem?_eq_some_iff.1 hD').1 (fun e => by have h1 := HBP.out; omega)).trans hD')))
              have HR7 := Aside0.mk (HR6.out.chg hCB (by omega))
              have HO7 := Aside0.mk (own_chg HO6.out hCB (fun _ _ => by omega))
              have HSL := Aside0.mk hsl
              clear hT2 hC2 hCB h7 hK hmx hsl HB8 HB9 HB10 HZ6 HLX HLL HL HAL HAR HROW HT1 HBP HD6 HR6 HO6 p1 hbpl hr1
              have e2 := HD7.out.box.1
              gi_wp2
              clear e2
              gi_loopg [84] (t.length) (fun gk v84 w7 => ∃ i : Nat, i ≤ t.length ∧ gk = t.length - i ∧ v84 = .int .i64 (i : Int) ∧ RD w base g S t.length (.slice (some ⟨g, 0, none⟩) t.length cap) b1 (elim (scaled t' ps.length k c) ps.length c i) (markOf D :: ds) w7 ∧ Bx w7 wo.heap.size (.int .i64 (ps.length : Int)) ∧ w7.ownsRow (w.heap.size + 1) 3 1 (.slice pA ps.length pc) ps.length (nums .i64 (ps.map fun (p : Nat) => (p : Int))))
              case atStart => exact ⟨0, Nat.zero_le _, rfl, rfl, HD7.out, HR7.out, HO7.out⟩
              case round =>
                clear HD7 HR7 HO7
                obtain ⟨i, hi, rfl, rfl, hD8, hR8, hO8⟩ := hrel
                have e2 := hD8.box.1
                have e6 := hR8.1
                have HD8 := Aside0.mk hD8
                have HR8 := Aside0.mk hR8
                have HO8 := Aside0.mk hO8
                clear hD8 hR8 hO8
                by_cases hiT : i < t.length
                · have y1 : decide ((i : Int) < (t.length : Int)) = true := decide_eq_true (by omega)
                  by_cases hie : i = ps.length
                  · have y2 : ((i : Int) == (ps.length : Int)) = true := beq_iff_eq.2 (by omega)
                    have HIE := Aside0.mk hie
                    clear hie
                    gi_wp2
                    gi_roundg (t.length - (i + 1))
                    case measure => omega
                    case rel =>
                      refine ⟨i + 1, by omega, rfl, by go_num, ?_, HR8.out, HO8.out⟩
                      rw [elim, if_pos HIE.out]
                      exact HD8.out
                  · have y2 : ((i : Int) == (ps.length : Int)) = false := beq_eq_false_iff_ne.2 (by omega)
                    have hel : (elim (scaled t' ps.length k c) ps.length c i).length = t.length := by rw [elim_length]; exact HSL.out
                    have hcl := clear_c wr base g cap b1 (elim (scaled t' ps.length k c) ps.length c i) i ps.length c n HD8.out.tab (rect_elim (scaled_rect HI.out.rect hr' hk') (by rw [HSL.out]; exact hrT) i (by rw [HSL.out]; exact hi)) (by rw [hel]; exact hiT) (by rw [hel]; exact hrT) hie (by omega) (by omega)
                      (fun d hd => scaled_zero hr' hk' (by rw [HTL.out]; exact hi) (HI.out.zero k d hk1 hk' hd)) (Nat.le_trans hb HD8.out.chg.size) (by rw [hel]; exact hcap)
                    rw [hel] at hcl
                    have HCL := Aside0.mk hcl
                    have HEL := Aside0.mk hel
                    clear hcl hel
                    gi_wp2_with (refine ⟨trivial, ?_⟩; gi_at_call 186; refine (callsIn_wide.2 HCL.out).mono ?_; rintro e w8 ⟨rfl, hT8, hC8⟩; have HT8 := Aside0.mk hT8; have HC8 := Aside0.mk hC8; clear hT8 hC8 HCL)
                    gi_roundg (t.length - (i + 1))
                    case measure => omega
                    case rel =>
                      have hlt := HD8.out.slt _ (HD8.out.low i hiT)
                      refine ⟨i + 1, by omega, rfl, by go_num, ?_, HR8.out.chg HC8.out (by omega), own_chg HO8.out HC8.out (fun _ _ => by omega)⟩
                      rw [elim, if_neg hie]
                      exact HD8.out.out hiT HT8.out (by rw [List.length_set]; exact HEL.out) HC8.out
                · obtain rfl : i = t.length := by omega
                  have y1 : decide ((t.length : Int) < (t.length : Int)) = false := decide_eq_false (by omega)
                  have HOA := Aside0.mk (own_below HO8.out ((Below.refl _ wr).alloc (Nat.le_refl _) (.cells #[.int .i64 (c : Int)] 3)))
                  have hpl : (ps.length + 1) * 8 ≤ 140737488355328 := by omega
                  have hsz := HD8.out.box.lt
                  obtain ⟨i0, hi0, hz0, hz1, hz2⟩ := info_parts (P := Try.prog) (e := 3) (z := .int .i64 0) (size := 1) (bytes := 8) (by kernel_rfl)
                  gi_wp2_with (gi_at_builtin; refine wpListIn_append_own _ rfl _ _ 23 rfl (w.heap.size + 1) 3 i0 (.int .i64 0) 1 8 (by kernel_rfl) hi0 hz0 hz1 hz2 rfl (by decide) _ _ _ rfl HOA.out ⟨wr.heap.size, 0, none⟩ 1 1 [.int .i64 (c : Int)] rfl ?qc1 ?qc2 ?qc3 ?qc4 ?qc5 ?qc6 ?_)
                  case qc1 => rfl
                  case qc2 =>
                    intro j u hj
                    have hj1 := (List.getElem?_eq_some_iff.1 hj).1
                    obtain rfl : j = 0 := by simpa using hj1
                    simp only [List.getElem?_cons_zero, Option.some.injEq] at hj
                    subst hj
                    exact (Bx.new wr (.int .i64 (c : Int)) 3).1
                  case qc3 => intro u hu; simp only [List.mem_singleton] at hu; subst hu; rfl
                  case qc4 => unfold maxLen; omega
                  case qc5 => omega
                  case qc6 => simp; omega
                  intro v' w9 hown hgrow hnil
                  have HW9 := Aside0.mk hown
                  have HG9 := Aside0.mk hgrow
                  clear hown hgrow hnil e2 e6 hi0 hz0 hz1 hz2 i0
                  gi_wp2
                  gi_roundg (many - (c + 1))
                  case measure => omega
                  case rel =>
                    refine ⟨c + 1, b1, by omega, rfl, by go_num, ?_⟩
                    rw [HST.out, step_some (HF.out.symm.trans (Sig.find_stop (fun _ => by rw [← HX.out]; exact HZ.out))) hk']
                    have he : elim (scaled t' ps.length k c) ps.length c t.length = Sig.pivot t' ps.length k c := by rw [← HTL.out]; exact elim_pivot hr' hk'
                    have h9 := (HD8.out.below ((Below.refl _ wr).alloc (Nat.le_refl _) (.cells #[.int .i64 (c : Int)] 3))).appended HOA.out HG9.out
                    rw [he] at h9
                    refine ⟨h9, ?_⟩
                    have h10 := HW9.out
                    simp only [List.length_append, List.length_cons, List.length_nil, List.map_append, List.map_cons, List.map_nil, nums_append]
                    exact h10
        · obtain rfl : k = t.length := by omega
          gi_wp2
          gi_roundg (many - (c + 1))
          case measure => omega
          case rel =>
            refine ⟨c + 1, bs', by omega, rfl, by go_num, ?_⟩
            rw [HST.out, step_none (HF.out.symm.trans (Sig.find_stop (fun h => by rw [HTL.out] at h; omega)) |>.trans HTL.out.symm)]
            exact ⟨HD0.out, HO0.out⟩
    · have f1 : decide ((c : Int) < (many : Int)) = false := decide_eq_false (by omega)
      obtain rfl : c = many := by omega
      gi_wp2
      exact leaves_marks (base := w.heap.size) (R := RedPost w base g bs t c) (fun W => Tab W base g bs' t' ∧ W.ownsRow (w.heap.size + 1) 3 1 (.slice pA ps.length pc) ps.length (nums .i64 (ps.map fun (p : Nat) => (p : Int))) ∧ Chg S w W)
        (fun W D hb hD hI => ⟨hI.1.kept (grownBy_putObj' W D (.deferred none)) (fun r e => by cases e; exact ⟨_, hD, rfl⟩), own_nocell hI.2.1 (grownBy_putObj' W D (.deferred none)) (fun r e => by cases e; exact ⟨_, hD, rfl⟩), hI.2.2.then_grown (grownBy_putObj' W D (.deferred none)) (fun k e => by cases e; exact .inr hb)⟩)
        (fun W hI => ⟨.slice pA ps.length pc, by simp [results, Try.results120, go_sem], .slice pA ps.length pc, bs', rfl, HD.out.len.trans hlb.symm, by rw [HRC.out]; exact hI.1, by rw [HRC.out]; exact own_mono hI.2.1 (Nat.le_succ _), by rw [← HS.out]; exact hI.2.2⟩) ds wo HD.out.marks ⟨HD.out.tab, HO.out, HD.out.chg⟩
end Go.Proofs.Ytdbamhckgaoibaa.P
