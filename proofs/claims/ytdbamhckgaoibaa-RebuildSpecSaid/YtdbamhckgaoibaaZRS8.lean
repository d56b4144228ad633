/- A part of the proof of RebuildSpec: dealing.Deal in plain words.; dealing.Deal, Public and Fits of what was dealt.; What comparing lists answers; and examples that the sanity functions ask, reckoned without any inverse but that of 1.; rebuild.all, sum and Part in plain words.; rebuild.Part in plain words.; rebuild.Finish in plain words. -/
import Derived.Test.YtdbamhckgaoibaaZRS7
import Derived.Deep.RegionWith
import Derived.Laws.ResultCell
namespace Go.Proofs.Ytdbamhckgaoibaa.P
open Go.RowKit Go.Proofs.YtdbamhckgaoibaaW.PrintWords Go.Proofs.YtdbamhckgaoibaaW.PrintLast Go.Proofs.YtdbamhckgaoibaaW.PrintMore
set_option linter.unusedVariables false
def dealQ (rows : List (List Int)) (owners : List Int) (secret : Int) (random : List Int) : List S38 × List Int × Int :=
  if checkP rows owners = 0 then (if inQ secret && !random.any outQ && decide (random.length + 1 = colsP rows) then (sharesQ rows (secret :: random), (secret :: random).map commitQ, 0) else ([], [], 1)) else ([], [], checkP rows owners)
theorem numbers_w {A : Option Addr} {c : Nat} {l : List Int} {W : World} (h : Sl (Kd.int .i64) W A c l) : Calls Try.prog 83 #[.slice A l.length c] W fun e w' => e = .returned (.bool (!l.any outQ)) ∧ Below W.heap.size W w' :=
  (dealing_numbers.calls A c l (!l.any outQ) W h.rd h.le (by unfold dealing_numbers.f contains_outQ.f; rfl)).mono fun _ _ h => ⟨h.1, h.2.below⟩
theorem cols_le {rows : List (List Int)} {owners : List Int} (h : checkP rows owners = 0) : colsP rows ≤ 64 := by
  have hP := check_ok h; unfold colsP
  split
  · decide
  · exact (hP.row 0 (by omega)).2.2.1
theorem deal_row {rows : List (List Int)} {owners : List Int} (h : checkP rows owners = 0) {secret : Int} {random s : List Int} (hn : random.length + 1 = colsP rows) (hs : s = secret :: random) {i : Nat} (hi : i < rows.length) : (rows.getD i []).length ≤ s.length := by
  have hP := check_ok h; have h1 := (hP.row i hi).2.1; rw [hs, List.length_cons, hn, colsP, if_neg (by omega), h1]; exact Nat.le_refl _
set_option maxRecDepth 100000 in
set_option maxHeartbeats 8000000 in
theorem deal_w {A0 A1 A2 : Option Addr} {c0 c1 c2 : Nat} {rows : List (List Int)} {owners : List Int} {secret : Int} {random : List Int} {w : World} (h0 : Sl (Kd.slice 3 (Kd.int .i64)) w A0 c0 rows) (h1 : Sl (Kd.int .i64) w A1 c1 owners) (h2 : Sl (Kd.int .i64) w A2 c2 random) :
    Calls Try.prog 22 #[.agg #[.slice A0 rows.length c0, .slice A1 owners.length c1], .int .i64 secret, .slice A2 random.length c2] w fun e w' => ∃ v0_ v1_ : Value, e = .returned (.tuple #[v0_, v1_, .int .i64 (dealQ rows owners secret random).2.2]) ∧
      Kd.R k38 38 w' w.heap.size (fun k_ => (w.heap.size ≤ k_)) v0_ (dealQ rows owners secret random).1 ∧ Kd.R (Kd.int .i64) 3 w' w.heap.size (fun k_ => (w.heap.size ≤ k_)) v1_ (dealQ rows owners secret random).2.1 ∧ Below w.heap.size w w' := by
  have H_rows := Aside0.mk h0; have H_own := Aside0.mk h1; have H_rnd := Aside0.mk h2; have HB := Aside0.mk (Below.refl w.heap.size w); clear h0 h1 h2
  obtain ⟨t, ht⟩ : ∃ t, t = checkP rows owners := ⟨_, rfl⟩
  have HK : Aside0 (∀ W, Sl (Kd.slice 3 (Kd.int .i64)) W A0 c0 rows → Sl (Kd.int .i64) W A1 c1 owners → Calls Try.prog 82 #[.agg #[.slice A0 rows.length c0, .slice A1 owners.length c1]] W fun e w' => e = .returned (.int .i64 t) ∧ Below W.heap.size W w') := ⟨fun W g0 g1 => by rw [ht]; exact program_Check.calls 66 A0 c0 rows A1 c1 owners _ W g0.rd g0.le g1.rd g1.le (check_math rows owners 66 (Nat.le_refl _))⟩
  rcases Decidable.em (t = 0) with h | h
  · skip
    have hd0 : checkP rows owners = 0 := ht.symm.trans h; clear ht; subst h
    cases hq1 : inQ secret with
    | false =>
      have HF : Aside0 (dealQ rows owners secret random = ([], [], 1)) := ⟨by unfold dealQ; rw [if_pos hd0, hq1]; rfl⟩
      have HS1 := Aside0.mk ((inQ_not secret).trans hq1); clear hq1 hd0
      go_enter Try.func22, Try.ntmps22
      go_wp2_with fail
      obtain ⟨w1, hw⟩ : ∃ W_, W_ = w.alloc (.cells #[.slice A0 rows.length c0, .slice A1 owners.length c1] 25) := ⟨_, rfl⟩
      rw [← hw]
      have hb : Below w.heap.size w w1 := by rw [hw]; exact below_alloc1 _ _
      have hz : w.heap.size = w.heap.size := rfl
      have hs : w1.heap.size = w.heap.size + 1 := by rw [hw, ← hz]; simp
      replace H_rows := Aside0.mk (H_rows.out.below hb); replace H_own := Aside0.mk (H_own.out.below hb); replace H_rnd := Aside0.mk (H_rnd.out.below hb); replace HB := Aside0.mk (below_then HB.out HB.out.size hb); have H_two0 := Aside0.mk (⟨by rw [hw, ← hz]; simp only [World.cell?]; rw [World.alloc_heap_new]; rfl, by rw [hs]; omega⟩ : w1.cell? ⟨w.heap.size, 0, none⟩ = some (.slice A0 rows.length c0) ∧ w.heap.size < w1.heap.size); have H_two1 := Aside0.mk (⟨by rw [hw, ← hz]; simp only [World.cell?]; rw [World.alloc_heap_new]; rfl, by rw [hs]; omega⟩ : w1.cell? ⟨w.heap.size, 1, none⟩ = some (.slice A1 owners.length c1) ∧ w.heap.size < w1.heap.size); clear hw hb hz
      have HZ := Aside0.mk hs; clear hs
      refine (HK.out _ H_rows.out H_own.out).mono ?_; rintro e w2 ⟨rfl, hb⟩; replace H_rows := Aside0.mk (H_rows.out.below hb); replace H_own := Aside0.mk (H_own.out.below hb); replace H_rnd := Aside0.mk (H_rnd.out.below hb); replace H_two0 := Aside0.mk (cell_on H_two0.out hb); replace H_two1 := Aside0.mk (cell_on H_two1.out hb); replace HB := Aside0.mk (below_then HB.out HB.out.size hb); clear hb; go_wp2_with fail
      obtain ⟨w3, hw⟩ : ∃ W_, W_ = w2.alloc (.cells #[.int .i64 secret] 3) := ⟨_, rfl⟩
      rw [← hw]
      have hb : Below w2.heap.size w2 w3 := by rw [hw]; exact below_alloc1 _ _
      have hz : w2.heap.size = w2.heap.size := rfl
      have hs : w3.heap.size = w2.heap.size + 1 := by rw [hw, ← hz]; simp
      have hl : Sl (Kd.int .i64) w3 (some ⟨w2.heap.size, 0, none⟩) 1 [secret] := by rw [hw, ← hz]; exact Sl.ints w2 3 [secret] (by show 1 ≤ 1000000; decide)
      replace H_rows := Aside0.mk (H_rows.out.below hb); replace H_own := Aside0.mk (H_own.out.below hb); replace H_rnd := Aside0.mk (H_rnd.out.below hb); replace H_two0 := Aside0.mk (cell_on H_two0.out hb); replace H_two1 := Aside0.mk (cell_on H_two1.out hb); replace HB := Aside0.mk (below_then HB.out HB.out.size hb)
      have H_s1 := Aside0.mk hl; clear hl
      clear hw hb hz
      have HZ := Aside0.mk hs; clear hs
      have HQ := numbers_w H_s1.out; rw [HS1.out] at HQ; refine (HQ).mono ?_; rintro e w4 ⟨rfl, hb⟩; replace H_rows := Aside0.mk (H_rows.out.below hb); replace H_own := Aside0.mk (H_own.out.below hb); replace H_rnd := Aside0.mk (H_rnd.out.below hb); replace H_two0 := Aside0.mk (cell_on H_two0.out hb); replace H_two1 := Aside0.mk (cell_on H_two1.out hb); clear H_s1; replace HB := Aside0.mk (below_then HB.out HB.out.size hb); clear hb; clear HQ; go_wp2
      go_ret3
      rw [HF.out]; exact ⟨_, _, rfl, Kd.R_nil _ _ _ _ _, Kd.R_nil _ _ _ _ _, HB.out⟩
    | true =>
      have HS1 := Aside0.mk ((inQ_not secret).trans hq1)
      cases hq2 : random.any outQ with
      | true =>
        have HF : Aside0 (dealQ rows owners secret random = ([], [], 1)) := ⟨by unfold dealQ; rw [if_pos hd0, hq1, hq2]; rfl⟩
        have HS2 := Aside0.mk (congrArg not hq2); clear hq1 hq2 hd0
        go_enter Try.func22, Try.ntmps22
        go_wp2_with fail
        obtain ⟨w1, hw⟩ : ∃ W_, W_ = w.alloc (.cells #[.slice A0 rows.length c0, .slice A1 owners.length c1] 25) := ⟨_, rfl⟩
        rw [← hw]
        have hb : Below w.heap.size w w1 := by rw [hw]; exact below_alloc1 _ _
        have hz : w.heap.size = w.heap.size := rfl
        have hs : w1.heap.size = w.heap.size + 1 := by rw [hw, ← hz]; simp
        replace H_rows := Aside0.mk (H_rows.out.below hb); replace H_own := Aside0.mk (H_own.out.below hb); replace H_rnd := Aside0.mk (H_rnd.out.below hb); replace HB := Aside0.mk (below_then HB.out HB.out.size hb); have H_two0 := Aside0.mk (⟨by rw [hw, ← hz]; simp only [World.cell?]; rw [World.alloc_heap_new]; rfl, by rw [hs]; omega⟩ : w1.cell? ⟨w.heap.size, 0, none⟩ = some (.slice A0 rows.length c0) ∧ w.heap.size < w1.heap.size); have H_two1 := Aside0.mk (⟨by rw [hw, ← hz]; simp only [World.cell?]; rw [World.alloc_heap_new]; rfl, by rw [hs]; omega⟩ : w1.cell? ⟨w.heap.size, 1, none⟩ = some (.slice A1 owners.length c1) ∧ w.heap.size < w1.heap.size); clear hw hb hz
        have HZ := Aside0.mk hs; clear hs
        refine (HK.out _ H_rows.out H_own.out).mono ?_; rintro e w2 ⟨rfl, hb⟩; replace H_rows := Aside0.mk (H_rows.out.below hb); replace H_own := Aside0.mk (H_own.out.below hb); replace H_rnd := Aside0.mk (H_rnd.out.below hb); replace H_two0 := Aside0.mk (cell_on H_two0.out hb); replace H_two1 := Aside0.mk (cell_on H_two1.out hb); replace HB := Aside0.mk (below_then HB.out HB.out.size hb); clear hb; go_wp2_with fail
        obtain ⟨w3, hw⟩ : ∃ W_, W_ = w2.alloc (.cells #[.int .i64 secret] 3) := ⟨_, rfl⟩
        rw [← hw]
        have hb : Below w2.heap.size w2 w3 := by rw [hw]; exact below_alloc1 _ _
        have hz : w2.heap.size = w2.heap.size := rfl
        have hs : w3.heap.size = w2.heap.size + 1 := by rw [hw, ← hz]; simp
        have hl : Sl (Kd.int .i64) w3 (some ⟨w2.heap.size, 0, none⟩) 1 [secret] := by rw [hw, ← hz]; exact Sl.ints w2 3 [secret] (by show 1 ≤ 1000000; decide)
        replace H_rows := Aside0.mk (H_rows.out.below hb); replace H_own := Aside0.mk (H_own.out.below hb); replace H_rnd := Aside0.mk (H_rnd.out.below hb); replace H_two0 := Aside0.mk (cell_on H_two0.out hb); replace H_two1 := Aside0.mk (cell_on H_two1.out hb); replace HB := Aside0.mk (below_then HB.out HB.out.size hb)
        have H_s1 := Aside0.mk hl; clear hl
        clear hw hb hz
        have HZ := Aside0.mk hs; clear hs
        have HQ := numbers_w H_s1.out; rw [HS1.out] at HQ; refine (HQ).mono ?_; rintro e w4 ⟨rfl, hb⟩; replace H_rows := Aside0.mk (H_rows.out.below hb); replace H_own := Aside0.mk (H_own.out.below hb); replace H_rnd := Aside0.mk (H_rnd.out.below hb); replace H_two0 := Aside0.mk (cell_on H_two0.out hb); replace H_two1 := Aside0.mk (cell_on H_two1.out hb); clear H_s1; replace HB := Aside0.mk (below_then HB.out HB.out.size hb); clear hb; clear HQ; go_wp2_with fail; have HQ := numbers_w H_rnd.out; rw [HS2.out] at HQ; refine (HQ).mono ?_; rintro e w5 ⟨rfl, hb⟩; replace H_rows := Aside0.mk (H_rows.out.below hb); replace H_own := Aside0.mk (H_own.out.below hb); replace H_rnd := Aside0.mk (H_rnd.out.below hb); replace H_two0 := Aside0.mk (cell_on H_two0.out hb); replace H_two1 := Aside0.mk (cell_on H_two1.out hb); replace HB := Aside0.mk (below_then HB.out HB.out.size hb); clear hb; clear HQ; go_wp2
        go_ret3
        rw [HF.out]; exact ⟨_, _, rfl, Kd.R_nil _ _ _ _ _, Kd.R_nil _ _ _ _ _, HB.out⟩
      | false =>
        have HS2 := Aside0.mk (congrArg not hq2); have hcl := cols_le hd0
        by_cases hn : random.length + 1 = colsP rows
        · skip
          have HF : Aside0 (dealQ rows owners secret random = (sharesQ rows (secret :: random), (secret :: random).map commitQ, 0)) := ⟨by unfold dealQ; rw [if_pos hd0, hq1, hq2, decide_eq_true hn]; rfl⟩
          have HL := Aside0.mk (And.intro hcl hn); have HNC := Aside0.mk hn; have HD0 := Aside0.mk hd0; have HC := Aside0.mk (fun W (g0 : Sl (Kd.slice 3 (Kd.int .i64)) W A0 c0 rows) (g1 : Sl (Kd.int .i64) W A1 c1 owners) => dealing_columns.calls A0 c0 rows A1 c1 owners (colsP rows : Int) W g0.rd g0.le g1.rd g1.le cols_math); clear hq1 hq2 hd0 hcl hn
          go_enter Try.func22, Try.ntmps22
          go_wp2_with fail
          obtain ⟨w1, hw⟩ : ∃ W_, W_ = w.alloc (.cells #[.slice A0 rows.length c0, .slice A1 owners.length c1] 25) := ⟨_, rfl⟩
          rw [← hw]
          have hb : Below w.heap.size w w1 := by rw [hw]; exact below_alloc1 _ _
          have hz : w.heap.size = w.heap.size := rfl
          have hs : w1.heap.size = w.heap.size + 1 := by rw [hw, ← hz]; simp
          replace H_rows := Aside0.mk (H_rows.out.below hb); replace H_own := Aside0.mk (H_own.out.below hb); replace H_rnd := Aside0.mk (H_rnd.out.below hb); replace HB := Aside0.mk (below_then HB.out HB.out.size hb); have H_two0 := Aside0.mk (⟨by rw [hw, ← hz]; simp only [World.cell?]; rw [World.alloc_heap_new]; rfl, by rw [hs]; omega⟩ : w1.cell? ⟨w.heap.size, 0, none⟩ = some (.slice A0 rows.length c0) ∧ w.heap.size < w1.heap.size); have H_two1 := Aside0.mk (⟨by rw [hw, ← hz]; simp only [World.cell?]; rw [World.alloc_heap_new]; rfl, by rw [hs]; omega⟩ : w1.cell? ⟨w.heap.size, 1, none⟩ = some (.slice A1 owners.length c1) ∧ w.heap.size < w1.heap.size); clear hw hb hz
          have HZ := Aside0.mk hs; clear hs
          refine (HK.out _ H_rows.out H_own.out).mono ?_; rintro e w2 ⟨rfl, hb⟩; replace H_rows := Aside0.mk (H_rows.out.below hb); replace H_own := Aside0.mk (H_own.out.below hb); replace H_rnd := Aside0.mk (H_rnd.out.below hb); replace H_two0 := Aside0.mk (cell_on H_two0.out hb); replace H_two1 := Aside0.mk (cell_on H_two1.out hb); replace HB := Aside0.mk (below_then HB.out HB.out.size hb); clear hb; go_wp2_with fail
          obtain ⟨w3, hw⟩ : ∃ W_, W_ = w2.alloc (.cells #[.int .i64 secret] 3) := ⟨_, rfl⟩
          rw [← hw]
          have hb : Below w2.heap.size w2 w3 := by rw [hw]; exact below_alloc1 _ _
          have hz : w2.heap.size = w2.heap.size := rfl
          have hs : w3.heap.size = w2.heap.size + 1 := by rw [hw, ← hz]; simp
          have hl : Sl (Kd.int .i64) w3 (some ⟨w2.heap.size, 0, none⟩) 1 [secret] := by rw [hw, ← hz]; exact Sl.ints w2 3 [secret] (by show 1 ≤ 1000000; decide)
          replace H_rows := Aside0.mk (H_rows.out.below hb); replace H_own := Aside0.mk (H_own.out.below hb); replace H_rnd := Aside0.mk (H_rnd.out.below hb); replace H_two0 := Aside0.mk (cell_on H_two0.out hb); replace H_two1 := Aside0.mk (cell_on H_two1.out hb); replace HB := Aside0.mk (below_then HB.out HB.out.size hb)
          have H_s1 := Aside0.mk hl; clear hl
          clear hw hb hz
          have HZ := Aside0.mk hs; clear hs
          have HQ := numbers_w H_s1.out; rw [HS1.out] at HQ; refine (HQ).mono ?_; rintro e w4 ⟨rfl, hb⟩; replace H_rows := Aside0.mk (H_rows.out.below hb); replace H_own := Aside0.mk (H_own.out.below hb); replace H_rnd := Aside0.mk (H_rnd.out.below hb); replace H_two0 := Aside0.mk (cell_on H_two0.out hb); replace H_two1 := Aside0.mk (cell_on H_two1.out hb); clear H_s1; replace HB := Aside0.mk (below_then HB.out HB.out.size hb); clear hb; clear HQ; go_wp2_with fail; have HQ := numbers_w H_rnd.out; rw [HS2.out] at HQ; refine (HQ).mono ?_; rintro e w5 ⟨rfl, hb⟩; replace H_rows := Aside0.mk (H_rows.out.below hb); replace H_own := Aside0.mk (H_own.out.below hb); replace H_rnd := Aside0.mk (H_rnd.out.below hb); replace H_two0 := Aside0.mk (cell_on H_two0.out hb); replace H_two1 := Aside0.mk (cell_on H_two1.out hb); replace HB := Aside0.mk (below_then HB.out HB.out.size hb); clear hb; clear HQ; have q1 : ((random.length : Int) != wrap64 ((colsP rows : Int) - 1)) = false := bne_eq_false_iff_eq.mpr (by have := HL.out; unfold wrap64; omega); have q2 : ((random.length : Int) == wrap64 ((colsP rows : Int) - 1)) = true := beq_iff_eq.mpr (by have := HL.out; unfold wrap64; omega); generalize colsP rows = n at HC HL q1 q2; have x_two0 := H_two0.out.1; have x_two1 := H_two1.out.1; go_wp2_with fail; clear x_two0 x_two1; refine (HC.out _ H_rows.out H_own.out).mono ?_; rintro e w6 ⟨rfl, hb⟩; replace H_rows := Aside0.mk (H_rows.out.below hb); clear H_own; replace H_rnd := Aside0.mk (H_rnd.out.below hb); replace H_two0 := Aside0.mk (cell_on H_two0.out hb); clear H_two1; replace HB := Aside0.mk (below_then HB.out HB.out.size hb); clear hb; clear HC; go_wp2_with fail; clear q1 q2
          obtain ⟨w7, hw⟩ : ∃ W_, W_ = w6.alloc (.cells #[.int .i64 secret] 3) := ⟨_, rfl⟩
          rw [← hw]
          have hb : Below w6.heap.size w6 w7 := by rw [hw]; exact below_alloc1 _ _
          have hz : w6.heap.size = w6.heap.size := rfl
          have hs : w7.heap.size = w6.heap.size + 1 := by rw [hw, ← hz]; simp
          have hl : Sl (Kd.int .i64) w7 (some ⟨w6.heap.size, 0, none⟩) 1 [secret] := by rw [hw, ← hz]; exact Sl.ints w6 3 [secret] (by show 1 ≤ 1000000; decide)
          replace H_rows := Aside0.mk (H_rows.out.below hb); replace H_rnd := Aside0.mk (H_rnd.out.below hb); replace H_two0 := Aside0.mk (cell_on H_two0.out hb); replace HB := Aside0.mk (below_then HB.out HB.out.size hb)
          have H_s1 := Aside0.mk hl; clear hl
          clear hw hb hz
          have HZ := Aside0.mk hs; clear hs
          obtain ⟨w8, hw⟩ : ∃ W_, W_ = w7.alloc (.cells #[.slice (some ⟨w6.heap.size, 0, none⟩) 1 1, .slice A2 random.length c2] 23) := ⟨_, rfl⟩
          rw [← hw]
          have hb : Below w7.heap.size w7 w8 := by rw [hw]; exact below_alloc1 _ _
          have hz : w7.heap.size = w6.heap.size + 1 := HZ.out
          have hs : w8.heap.size = w6.heap.size + 1 + 1 := by rw [hw, ← hz]; simp
          have hl : Sl (Kd.slice 3 (Kd.int .i64)) w8 (some ⟨w6.heap.size + 1, 0, none⟩) 2 [[secret], random] := by rw [hw, ← hz]; exact Sl.rows w7 23 3 [.slice (some ⟨w6.heap.size, 0, none⟩) 1 1, .slice A2 random.length c2] [[secret], random] (.cons (SlAt.mk_ H_s1.out) (.cons (SlAt.mk_ H_rnd.out) SlsAt.nil)) (by show 2 ≤ 1000000; decide)
          replace H_rows := Aside0.mk (H_rows.out.below hb); replace H_rnd := Aside0.mk (H_rnd.out.below hb); replace H_two0 := Aside0.mk (cell_on H_two0.out hb); replace H_s1 := Aside0.mk (H_s1.out.below hb); replace HB := Aside0.mk (below_then HB.out HB.out.size hb)
          have H_both := Aside0.mk hl; clear hl
          clear hw hb hz
          have HZ := Aside0.mk hs; clear hs
          refine (slices_Concat_int_int.calls _ _ [[secret], random] (secret :: random) _ H_both.out.rd H_both.out.le (by unfold slices_Concat_int_int.f; rw [if_pos (by have := HL.out; simp [sizesOf]; omega)]; simp)).mono ?_; rintro e w9 ⟨v5, rfl, h5, hb⟩; replace H_rows := Aside0.mk (H_rows.out.below hb); clear H_rnd; replace H_two0 := Aside0.mk (cell_on H_two0.out hb); clear H_s1; clear H_both; replace HB := Aside0.mk (below_then HB.out HB.out.size hb); obtain ⟨As, cs, rfl, hs⟩ := Sl.ofR h5; have H_s := Aside0.mk hs; clear hb h5 hs
          obtain ⟨s, hsd⟩ : ∃ s, s = secret :: random := ⟨_, rfl⟩
          rw [← hsd] at H_s HF ⊢
          have HSL : Aside0 (s.length = n ∧ n ≤ 64) := ⟨by rw [hsd, List.length_cons]; have := HL.out; omega⟩
          have HROW : Aside0 (∀ i, i < rows.length → (rows.getD i []).length ≤ s.length) := ⟨fun i hi => deal_row HD0.out HNC.out hsd hi⟩
          clear hsd
          obtain ⟨Wa, hWa⟩ : ∃ W_, W_ = w9 := ⟨_, rfl⟩
          rw [← hWa] at H_rows H_s H_two0 HB ⊢; clear hWa; have x0 := H_two0.out.1; go_wp2_with fail; clear x0
          go_loopg [6, 47] rows.length (fun gk v6 v47 wr => ∃ i : Nat, i ≤ rows.length ∧ gk = rows.length - i ∧ v47 = .int .i64 (i : Int) ∧ Aside0 (Kd.R k38 38 wr Wa.heap.size (fun k_ => Wa.heap.size ≤ k_) v6 ((List.range i).map (shareQ rows s)) ∧ Below Wa.heap.size Wa wr))
          case atStart => exact ⟨0, Nat.zero_le _, rfl, rfl, ⟨Kd.R_nil _ _ _ _ _, Below.refl _ _⟩⟩
          case round =>
            obtain ⟨i, hi, rfl, rfl, HX⟩ := hrel
            by_cases hlt : i < rows.length
            · have d1 : decide ((i : Int) < (rows.length : Int)) = true := decide_eq_true (by omega)
              have d2 : decide (i < rows.length) = true := decide_eq_true hlt
              have d3 : (0 : Int) ≤ (i : Int) := by omega
              obtain ⟨ar, Ar, cr, e, z1, z2, z3⟩ := at_L1 H_rows.out.rd (i : Int) (by omega) (by omega); cases e; rw [rd_L1_nat] at z1 z2 z3; rw [Int.toNat_natCast] at z1; have hbx := HX.out.2; replace z1 := (hbx.cell (World.block_lt_of_cell? Wa _ z1)).trans z1; replace z3 := Kd.C_below z3 hbx; have hss := H_s.out.below hbx
              have hT := fun W (hb : Below wr.heap.size wr W) => dealing_times.calls Ar cr (rows.getD i []) As cs s (Sig.dot (rows.getD i []) s % 1073741789) W (Kd.C_below z3 hb) z2 (Kd.C_below hss.rd hb) hss.le (by unfold dealing_times.f; rw [if_pos (HROW.out i hlt)])
              have hsh : (List.range i).map (shareQ rows s) ++ [⟨(i : Int), Sig.dot (rows.getD i []) s % 1073741789⟩] = (List.range (i + 1)).map (shareQ rows s) := by rw [List.range_succ, List.map_append]; rfl
              have hlen : ((List.range i).map (shareQ rows s)).length = i := by simp
              have hrl : rows.length ≤ 64 := (check_ok HD0.out).few
              have HT := Aside0.mk hT; have HSH := Aside0.mk hsh; have HO := Aside0.mk HX.out.1; have HBX := Aside0.mk hbx; have HLEN := Aside0.mk hlen; have HRL := Aside0.mk hrl
              generalize Sig.dot (rows.getD i []) s % 1073741789 = y at HT HSH; generalize (List.range i).map (shareQ rows s) = acc at HO HSH HLEN; generalize (rows.getD i []).length = rl at z1 HT; clear hT z2 z3 hss hbx hsh hlen HX hrl; obtain ⟨vA, vc, rfl⟩ := Kd.R_slice HO.out; go_wp2_with fail; refine (HT.out _ (Below.refl _ _)).mono ?_; rintro e wb ⟨rfl, hb⟩; have HO2 := Aside0.mk (Kd.R_below HO.out hb); have HBB := Aside0.mk (below_then HBX.out HBX.out.size hb); clear hb z1 HT HO HBX; go_wp2_with (at_builtin; refine Kd.R_append k38 (w0 := Wa) Wa.heap.size rfl (.tmp 52) (.tmp 58) 26 38 (.agg #[.int .i64 0, .int .i64 0]) 16 rfl (by kernel_rfl) (by kernel_rfl) rfl (by decide) (by decide) (.slice vA acc.length vc) acc ⟨(i : Int), y⟩ [.int .i64 (i : Int), .int .i64 y] (fun k_ => Wa.heap.size ≤ k_) (fun _ => False) rfl rfl (k38_mkM _ _ _ ⟨(i : Int), y⟩) (fun _ hk => hk.elim) (fun k hk => Nat.le_trans HBB.out.size hk) HO2.out HBB.out HBB.out.size (by have := HLEN.out; have := HRL.out; omega) ?_; intro v1 wc ho hbc hg hat; have HO3 := Aside0.mk ho; have HB3 := Aside0.mk hbc; clear ho hbc hg hat)
              go_roundg (rows.length - (i + 1))
              case measure => omega
              case rel => exact ⟨i + 1, by omega, rfl, by first | rfl | rw [wrap_succ (by have := HRL.out; omega)], ⟨by rw [← HSH.out]; exact HO3.out, HB3.out⟩⟩
            · obtain rfl : i = rows.length := by omega
              have d1 : decide ((rows.length : Int) < (rows.length : Int)) = false := decide_eq_false (by omega); have HO := Aside0.mk (show Kd.R k38 38 wr Wa.heap.size (fun k_ => Wa.heap.size ≤ k_) _ (sharesQ rows s) from HX.out.1); have H_s2 := Aside0.mk (H_s.out.below HX.out.2); have HB2 := Aside0.mk (below_then HB.out HB.out.size HX.out.2); have HGE := Aside0.mk (Nat.le_trans HB.out.size HX.out.2.size); have HGE0 := Aside0.mk HB.out.size; clear H_s H_rows HB H_two0 HX HROW; obtain ⟨vA, vc, rfl⟩ := Kd.R_slice HO.out; generalize wr = Wb at HO H_s2 HB2 HGE HGE0 ⊢; go_wp2_with fail
              go_loopg [6, 7, 63] s.length (fun gk v6 v7 v63 wq => v6 = .slice vA (sharesQ rows s).length vc ∧ ∃ j : Nat, j ≤ s.length ∧ gk = s.length - j ∧ v63 = .int .i64 (j : Int) ∧ Aside0 (Kd.R (Kd.int .i64) 3 wq Wb.heap.size (fun k_ => Wb.heap.size ≤ k_) v7 ((s.take j).map commitQ) ∧ Below Wb.heap.size Wb wq))
              case atStart => exact ⟨rfl, 0, Nat.zero_le _, rfl, rfl, ⟨Kd.R_nil _ _ _ _ _, Below.refl _ _⟩⟩
              case round =>
                obtain ⟨rfl, j, hj, rfl, rfl, HX⟩ := hrel
                by_cases hlt : j < s.length
                · have e1 : decide ((j : Int) < (s.length : Int)) = true := decide_eq_true (by omega)
                  have e2 : decide (j < s.length) = true := decide_eq_true hlt
                  have e3 : (0 : Int) ≤ (j : Int) := by omega
                  obtain ⟨as_, e, y1⟩ := Kd.at_int H_s2.out.rd (j : Int) (by omega) (by omega); cases e; rw [rd_nat, Int.toNat_natCast] at y1; replace y1 := (HX.out.2.cell (World.block_lt_of_cell? _ _ y1)).trans y1
                  have htk : (s.take j).map commitQ ++ [commitQ (s.getD j 0)] = (s.take (j + 1)).map commitQ := by rw [List.take_succ_eq_append_getElem hlt, List.map_append, List.getD_eq_getElem?_getD, List.getElem?_eq_getElem hlt]; rfl
                  have hlen : ((s.take j).map commitQ).length = j := by rw [List.length_map, List.length_take]; omega
                  have HTK := Aside0.mk htk; have HQ := Aside0.mk HX.out.1; have HBX := Aside0.mk HX.out.2; have HLEN := Aside0.mk hlen
                  generalize s.getD j 0 = x at y1 HTK; generalize (s.take j).map commitQ = acc at HQ HTK HLEN; clear htk hlen HX; obtain ⟨vB, vd, rfl⟩ := Kd.R_slice HQ.out; go_wp2_with fail; refine (group_Pow.calls 4 x _ _ _ (pow_four x)).mono ?_; rintro e wb ⟨rfl, hb⟩; have HQ2 := Aside0.mk (Kd.R_below HQ.out hb); have HBB := Aside0.mk (below_then HBX.out HBX.out.size hb); clear hb y1 HQ HBX; generalize commitQ x = y at HTK ⊢; go_wp2_with (at_builtin; refine Kd.R_append (Kd.int .i64) (w0 := Wb) Wb.heap.size rfl (.tmp 75) (.tmp 77) 23 3 (.int .i64 0) 8 rfl (by kernel_rfl) (by kernel_rfl) rfl (by decide) (by decide) (.slice vB acc.length vd) acc y [.int .i64 y] (fun k_ => Wb.heap.size ≤ k_) (fun _ => False) rfl rfl rfl (fun _ hk => hk.elim) (fun k hk => Nat.le_trans HBB.out.size hk) HQ2.out HBB.out HBB.out.size (by have := HLEN.out; have := HSL.out; omega) ?_; intro v1 wc ho hbc hg hat; have HQ3 := Aside0.mk ho; have HB3 := Aside0.mk hbc; clear ho hbc hg hat)
                  go_roundg (s.length - (j + 1))
                  case measure => omega
                  case rel => exact ⟨rfl, j + 1, by omega, rfl, by first | rfl | rw [wrap_succ (by have := HSL.out; omega)], ⟨by rw [← HTK.out]; exact HQ3.out, HB3.out⟩⟩
                · obtain rfl : j = s.length := by omega
                  have e1 : decide ((s.length : Int) < (s.length : Int)) = false := decide_eq_false (by omega); have hx := HX.out.1; rw [List.take_length] at hx
                  have HQ := Aside0.mk hx; have HBX := Aside0.mk HX.out.2; clear hx HX
                  obtain ⟨vB, vd, rfl⟩ := Kd.R_slice HQ.out; go_wp2
                  go_ret3
                  rw [HF.out]; exact ⟨_, _, rfl, Kd.R_mono (Kd.R_lower (Kd.R_below HO.out HBX.out) HGE0.out) (fun k hk => Nat.le_trans HGE0.out hk), Kd.R_mono (Kd.R_lower HQ.out HGE.out) (fun k hk => Nat.le_trans HGE.out hk), below_then HB2.out HB2.out.size HBX.out⟩
        · skip
          have HF : Aside0 (dealQ rows owners secret random = ([], [], 1)) := ⟨by unfold dealQ; rw [if_pos hd0, hq1, hq2, decide_eq_false hn]; rfl⟩
          have HC := Aside0.mk (fun W (g0 : Sl (Kd.slice 3 (Kd.int .i64)) W A0 c0 rows) (g1 : Sl (Kd.int .i64) W A1 c1 owners) => dealing_columns.calls A0 c0 rows A1 c1 owners (colsP rows : Int) W g0.rd g0.le g1.rd g1.le cols_math); have HL := Aside0.mk (And.intro hcl hn); clear hq1 hq2 hd0 hcl hn
          go_enter Try.func22, Try.ntmps22
          go_wp2_with fail
          obtain ⟨w1, hw⟩ : ∃ W_, W_ = w.alloc (.cells #[.slice A0 rows.length c0, .slice A1 owners.length c1] 25) := ⟨_, rfl⟩
          rw [← hw]
          have hb : Below w.heap.size w w1 := by rw [hw]; exact below_alloc1 _ _
          have hz : w.heap.size = w.heap.size := rfl
          have hs : w1.heap.size = w.heap.size + 1 := by rw [hw, ← hz]; simp
          replace H_rows := Aside0.mk (H_rows.out.below hb); replace H_own := Aside0.mk (H_own.out.below hb); replace H_rnd := Aside0.mk (H_rnd.out.below hb); replace HB := Aside0.mk (below_then HB.out HB.out.size hb); have H_two0 := Aside0.mk (⟨by rw [hw, ← hz]; simp only [World.cell?]; rw [World.alloc_heap_new]; rfl, by rw [hs]; omega⟩ : w1.cell? ⟨w.heap.size, 0, none⟩ = some (.slice A0 rows.length c0) ∧ w.heap.size < w1.heap.size); have H_two1 := Aside0.mk (⟨by rw [hw, ← hz]; simp only [World.cell?]; rw [World.alloc_heap_new]; rfl, by rw [hs]; omega⟩ : w1.cell? ⟨w.heap.size, 1, none⟩ = some (.slice A1 owners.length c1) ∧ w.heap.size < w1.heap.size); clear hw hb hz
          have HZ := Aside0.mk hs; clear hs
          refine (HK.out _ H_rows.out H_own.out).mono ?_; rintro e w2 ⟨rfl, hb⟩; replace H_rows := Aside0.mk (H_rows.out.below hb); replace H_own := Aside0.mk (H_own.out.below hb); replace H_rnd := Aside0.mk (H_rnd.out.below hb); replace H_two0 := Aside0.mk (cell_on H_two0.out hb); replace H_two1 := Aside0.mk (cell_on H_two1.out hb); replace HB := Aside0.mk (below_then HB.out HB.out.size hb); clear hb; go_wp2_with fail
          obtain ⟨w3, hw⟩ : ∃ W_, W_ = w2.alloc (.cells #[.int .i64 secret] 3) := ⟨_, rfl⟩
          rw [← hw]
          have hb : Below w2.heap.size w2 w3 := by rw [hw]; exact below_alloc1 _ _
          have hz : w2.heap.size = w2.heap.size := rfl
          have hs : w3.heap.size = w2.heap.size + 1 := by rw [hw, ← hz]; simp
          have hl : Sl (Kd.int .i64) w3 (some ⟨w2.heap.size, 0, none⟩) 1 [secret] := by rw [hw, ← hz]; exact Sl.ints w2 3 [secret] (by show 1 ≤ 1000000; decide)
          replace H_rows := Aside0.mk (H_rows.out.below hb); replace H_own := Aside0.mk (H_own.out.below hb); replace H_rnd := Aside0.mk (H_rnd.out.below hb); replace H_two0 := Aside0.mk (cell_on H_two0.out hb); replace H_two1 := Aside0.mk (cell_on H_two1.out hb); replace HB := Aside0.mk (below_then HB.out HB.out.size hb)
          have H_s1 := Aside0.mk hl; clear hl
          clear hw hb hz
          have HZ := Aside0.mk hs; clear hs
          have HQ := numbers_w H_s1.out; rw [HS1.out] at HQ; refine (HQ).mono ?_; rintro e w4 ⟨rfl, hb⟩; replace H_rows := Aside0.mk (H_rows.out.below hb); replace H_own := Aside0.mk (H_own.out.below hb); replace H_rnd := Aside0.mk (H_rnd.out.below hb); replace H_two0 := Aside0.mk (cell_on H_two0.out hb); replace H_two1 := Aside0.mk (cell_on H_two1.out hb); clear H_s1; replace HB := Aside0.mk (below_then HB.out HB.out.size hb); clear hb; clear HQ; go_wp2_with fail; have HQ := numbers_w H_rnd.out; rw [HS2.out] at HQ; refine (HQ).mono ?_; rintro e w5 ⟨rfl, hb⟩; replace H_rows := Aside0.mk (H_rows.out.below hb); replace H_own := Aside0.mk (H_own.out.below hb); replace H_rnd := Aside0.mk (H_rnd.out.below hb); replace H_two0 := Aside0.mk (cell_on H_two0.out hb); replace H_two1 := Aside0.mk (cell_on H_two1.out hb); replace HB := Aside0.mk (below_then HB.out HB.out.size hb); clear hb; clear HQ; have q1 : ((random.length : Int) != wrap64 ((colsP rows : Int) - 1)) = true := bne_iff_ne.mpr (by have := HL.out; unfold wrap64; omega); have q2 : ((random.length : Int) == wrap64 ((colsP rows : Int) - 1)) = false := beq_eq_false_iff_ne.mpr (by have := HL.out; unfold wrap64; omega); generalize colsP rows = n at HC HL q1 q2; have x_two0 := H_two0.out.1; have x_two1 := H_two1.out.1; go_wp2_with fail; clear x_two0 x_two1; refine (HC.out _ H_rows.out H_own.out).mono ?_; rintro e w6 ⟨rfl, hb⟩; replace H_rows := Aside0.mk (H_rows.out.below hb); replace H_own := Aside0.mk (H_own.out.below hb); replace H_rnd := Aside0.mk (H_rnd.out.below hb); replace H_two0 := Aside0.mk (cell_on H_two0.out hb); replace H_two1 := Aside0.mk (cell_on H_two1.out hb); replace HB := Aside0.mk (below_then HB.out HB.out.size hb); clear hb; go_wp2
          go_ret3
          rw [HF.out]; exact ⟨_, _, rfl, Kd.R_nil _ _ _ _ _, Kd.R_nil _ _ _ _ _, HB.out⟩
  · skip
    have HF : Aside0 (dealQ rows owners secret random = ([], [], t)) := ⟨by unfold dealQ; rw [← ht, if_neg h]⟩
    clear ht; have q1 : (t == 0) = false := beq_eq_false_iff_ne.mpr h; have q2 : (t != 0) = true := bne_iff_ne.mpr h
    go_enter Try.func22, Try.ntmps22
    go_wp2_with fail
    obtain ⟨w1, hw⟩ : ∃ W_, W_ = w.alloc (.cells #[.slice A0 rows.length c0, .slice A1 owners.length c1] 25) := ⟨_, rfl⟩
    rw [← hw]
    have hb : Below w.heap.size w w1 := by rw [hw]; exact below_alloc1 _ _
    have hz : w.heap.size = w.heap.size := rfl
    have hs : w1.heap.size = w.heap.size + 1 := by rw [hw, ← hz]; simp
    replace H_rows := Aside0.mk (H_rows.out.below hb); replace H_own := Aside0.mk (H_own.out.below hb); replace H_rnd := Aside0.mk (H_rnd.out.below hb); replace HB := Aside0.mk (below_then HB.out HB.out.size hb); have H_two0 := Aside0.mk (⟨by rw [hw, ← hz]; simp only [World.cell?]; rw [World.alloc_heap_new]; rfl, by rw [hs]; omega⟩ : w1.cell? ⟨w.heap.size, 0, none⟩ = some (.slice A0 rows.length c0) ∧ w.heap.size < w1.heap.size); have H_two1 := Aside0.mk (⟨by rw [hw, ← hz]; simp only [World.cell?]; rw [World.alloc_heap_new]; rfl, by rw [hs]; omega⟩ : w1.cell? ⟨w.heap.size, 1, none⟩ = some (.slice A1 owners.length c1) ∧ w.heap.size < w1.heap.size); clear hw hb hz
    have HZ := Aside0.mk hs; clear hs
    refine (HK.out _ H_rows.out H_own.out).mono ?_; rintro e w2 ⟨rfl, hb⟩; replace H_rows := Aside0.mk (H_rows.out.below hb); replace H_own := Aside0.mk (H_own.out.below hb); replace H_rnd := Aside0.mk (H_rnd.out.below hb); replace H_two0 := Aside0.mk (cell_on H_two0.out hb); replace H_two1 := Aside0.mk (cell_on H_two1.out hb); replace HB := Aside0.mk (below_then HB.out HB.out.size hb); clear hb; go_wp2
    go_ret3
    rw [HF.out]; exact ⟨_, _, rfl, Kd.R_nil _ _ _ _ _, Kd.R_nil _ _ _ _ _, HB.out⟩
end Go.Proofs.Ytdbamhckgaoibaa.P
namespace Go.Proofs.Ytdbamhckgaoibaa.P
open Go.RowKit Go.Proofs.YtdbamhckgaoibaaW.PrintWords Go.Proofs.YtdbamhckgaoibaaW.PrintLast Go.Proofs.YtdbamhckgaoibaaW.PrintMore
theorem deal_good {rows : List (List Int)} {owners : List Int} {secret : Int} {random : List Int} (hc : checkP rows owners = 0) (hs : inQ secret = true) (hr : random.any outQ = false) (hl : random.length + 1 = colsP rows) :
    dealQ rows owners secret random = (sharesQ rows (secret :: random), (secret :: random).map commitQ, 0) := by
  unfold dealQ
  rw [if_pos hc, hs, hr, decide_eq_true hl]; rfl
theorem noEl_commit (s : List Int) : (s.map commitQ).any noEl = false := by
  rw [List.any_eq_false]; intro x hx; obtain ⟨n, _, rfl⟩ := List.mem_map.1 hx; unfold noEl
  rw [commitQ_el]; decide
theorem check_dealt {rows : List (List Int)} {owners : List Int} {s : List Int} (hc : checkP rows owners = 0) (hl : s.length = colsP rows) : checkD rows owners (s.map commitQ) = 0 := by
  unfold checkD; rw [if_pos hc, if_pos ⟨by rw [List.length_map, hl], noEl_commit s⟩]
theorem pub_dealt : ∀ (s row : List Int) (y : Int), pubFrom (commitQ y) (s.map commitQ) row = commitQ (y + Sig.dot row s)
  | [], row, y => by
    rw [List.map_nil, Sig.dot_nil_r, Int.add_zero]
    cases row <;> rfl
  | x :: s, [], y => by rw [Sig.dot_nil_l, Int.add_zero]; rfl
  | x :: s, e :: row, y => by
    rw [List.map_cons, pubFrom, commitQ_pow, commitQ_add, pub_dealt s row, Sig.dot]
    congr 1
    rw [Int.mul_comm x e]; omega
theorem public_dealt {rows : List (List Int)} {owners : List Int} {s : List Int} (hc : checkP rows owners = 0) (hl : s.length = colsP rows) {i : Nat} (hi : i < rows.length) :
    publicD rows owners (s.map commitQ) (i : Int) = (commitQ (Sig.dot (rows.getD i []) s), 0) := by
  unfold publicD; rw [if_pos (check_dealt hc hl), if_pos ⟨by omega, by omega⟩, Int.toNat_natCast, ← commitQ_zero, pub_dealt, Int.zero_add]
theorem fits_dealt {rows : List (List Int)} {owners : List Int} {s : List Int} (hc : checkP rows owners = 0) (hl : s.length = colsP rows) {i : Nat} (hi : i < rows.length) {v : Int} (hv : inQ v = true) :
    fitsD rows owners (s.map commitQ) (i : Int) v = (commitQ v == commitQ (Sig.dot (rows.getD i []) s), 0) := by
  have hr : rightS rows.length ⟨(i : Int), v⟩ = true := by
    unfold rightS; simp only [hv, Bool.and_true]
    rw [decide_eq_true (by omega), decide_eq_true (by omega)]; rfl
  unfold fitsD
  rw [if_pos (check_dealt hc hl), hr, public_dealt hc hl hi]; rfl
end Go.Proofs.Ytdbamhckgaoibaa.P
namespace Go.Proofs.Ytdbamhckgaoibaa.P
open Go.RowKit Go.Proofs.YtdbamhckgaoibaaW.PrintWords Go.Proofs.YtdbamhckgaoibaaW.PrintLast Go.Proofs.YtdbamhckgaoibaaW.PrintMore
theorem finv_one : Sig.finv 1 = 1 := by unfold Sig.finv; rw [Int.one_pow]; rfl
def pivotG (g : Int → Int) (t : List (List Int)) (r k c : Nat) : List (List Int) :=
  let own := Sig.times (t.getD k []) (g (Sig.ent t k c))
  (((t.set k (t.getD r [])).map fun row => Sig.less row own (row.getD c 0))).set r own
def stepG (g : Int → Int) (st : List (List Int) × List Nat) (c : Nat) : List (List Int) × List Nat :=
  if Sig.find st.1 c st.2.length < st.1.length then (pivotG g st.1 st.2.length (Sig.find st.1 c st.2.length) c, st.2 ++ [c]) else st
def reduceG (g : Int → Int) (t : List (List Int)) (many : Nat) : List (List Int) × List Nat := (List.range many).foldl (stepG g) (t, [])
def combineG (g : Int → Int) (rows : List (List Int)) (target : List Int) : Option (List Int) :=
  if Sig.fits (reduceG g (Sig.turned rows target) rows.length).1 (reduceG g (Sig.turned rows target) rows.length).2.length rows.length then
    some (Sig.combY (reduceG g (Sig.turned rows target) rows.length).1 (reduceG g (Sig.turned rows target) rows.length).2 rows.length) else none
def inv1 (x : Int) : Int := if x = 1 then 1 else Sig.finv x
theorem inv1_eq : inv1 = Sig.finv := funext fun x => by
  unfold inv1
  split
  · rename_i h; subst h; exact finv_one.symm
  · rfl
theorem combine_inv1 (rows : List (List Int)) (target : List Int) : Sig.combine rows target = combineG inv1 rows target := by rw [inv1_eq]; rfl
end Go.Proofs.Ytdbamhckgaoibaa.P
namespace Go.Proofs.Ytdbamhckgaoibaa.P
open Go.RowKit Go.Proofs.YtdbamhckgaoibaaW.PrintWords Go.Proofs.YtdbamhckgaoibaaW.PrintLast Go.Proofs.YtdbamhckgaoibaaW.PrintMore
set_option linter.unusedVariables false
set_option linter.unusedSimpArgs false
def SaysC (g : Nat) (lb : Array Value) (p : Int → Bool) (w : World) : Prop := ∀ (x : Int) (W : World), Drawn0 w W → Calls Try.prog g (#[.int .i64 x] ++ lb) W fun e w' => e = .returned (.bool (p x)) ∧ Drawn0 W w'
set_option maxHeartbeats 1000000 in
theorem index_anyC {g : Nat} {lb : Array Value} {p : Int → Bool} (A0 : Option Addr) (c0 : Nat) (l : List Int) (w : World) (hs : SaysC g lb p w) (eg : ∀ args w, (callFunc g args).run Try.prog w = .ok (.enter g args) w) (hr : Kd.C (Kd.int .i64) w A0 l.length l) :
    Calls Try.prog 194 #[.slice A0 l.length c0, .func (.func g) #[] lb] w (Found p l w) := by
  have HS := Aside0.mk hs; have HR := Aside0.mk hr; have hlen : l.length ≤ 9223372036854775807 := hr.2.1; clear hs hr
  go_enter Try.func194, Try.ntmps194
  go_wp2
  go_loopg [8] l.length (fun gk v8 w' => ∃ j : Nat, j + gk = l.length ∧ v8 = .int .i64 (j : Int) ∧ Aside0 ((l.take j).any p = false) ∧ Drawn0 w w')
  case atStart => exact ⟨0, by omega, rfl, ⟨by simp⟩, by repeat (first | exact Drawn0.refl _ | apply Drawn0.step)⟩
  case round =>
    obtain ⟨j, hj, rfl, HA, ⟨m, rfl⟩⟩ := hrel
    by_cases hlt : j < l.length
    · have c1 : decide ((j : Int) < (l.length : Int)) = true := decide_eq_true (by omega)
      have c2 : decide (j < l.length) = true := decide_eq_true hlt; obtain ⟨ad, e, hx⟩ := Kd.at_int HR.out (j : Int) (by omega) (by omega); cases e; rw [Int.toNat_natCast] at hx
      have hrd : rd l (j : Int) = l[j] := by
        unfold rd
        rw [Int.toNat_natCast, List.getD_eq_getElem?_getD, List.getElem?_eq_getElem hlt]; rfl
      rw [hrd] at hx
      have c3 : (0 : Int) ≤ (j : Int) := by omega
      generalize hy : l[j] = y at hx; have HY := Aside0.mk hy; clear hy hrd; go_wp2_with fail; refine (HS.out _ _ (by repeat (first | exact Drawn0.refl _ | exact ⟨_, rfl⟩ | apply Drawn0.step))).mono ?_; rintro e w' ⟨rfl, ⟨nd, rfl⟩⟩
      cases hpy : p y with
      | true =>
        have hf : l.any p = true := any_take_stop hlt (by rw [HY.out]; exact hpy); have HF := Aside0.mk hf; clear hf hpy; go_wp2
        go_ret
        exact ⟨(j : Int), by first | rfl | simp, by rw [HF.out]; exact decide_eq_true (by omega), by repeat (first | exact Drawn0.refl _ | apply Drawn0.step)⟩
      | false =>
        have HF := Aside0.mk (any_take_next hlt HA.out (by rw [HY.out]; exact hpy)); clear hpy; go_wp2
        go_roundg (gk - 1)
        case measure => omega
        case rel => exact ⟨j + 1, by omega, by go_num, HF, by repeat (first | exact Drawn0.refl _ | apply Drawn0.step)⟩
    · have hje : j = l.length := by omega
      have c1 : decide ((j : Int) < (l.length : Int)) = false := decide_eq_false (by omega); have c2 : decide (j < l.length) = false := decide_eq_false (by omega)
      have hf : l.any p = false := by have := HA.out; rw [hje, List.take_length] at this; exact this
      have HF := Aside0.mk hf; clear hf hje; go_wp2
      go_ret
      exact ⟨-1, by first | rfl | simp, by rw [HF.out]; rfl, by repeat (first | exact Drawn0.refl _ | apply Drawn0.step)⟩
theorem contains_anyC {g : Nat} {lb : Array Value} {p : Int → Bool} (A0 : Option Addr) (c0 : Nat) (l : List Int) (w : World) (hs : SaysC g lb p w) (eg : ∀ args w, (callFunc g args).run Try.prog w = .ok (.enter g args) w) (hr : Kd.C (Kd.int .i64) w A0 l.length l) :
    Calls Try.prog 161 #[.slice A0 l.length c0, .func (.func g) #[] lb] w fun e w' => e = .returned (.bool (l.any p)) ∧ Drawn0 w w' := by
  have HG := index_anyC A0 c0 l w hs eg hr; clear hs hr eg; unfold Found at HG; generalize l.any p = b at HG ⊢; have HG := Aside0.mk HG
  go_enter Try.func161, Try.ntmps161
  go_wp2_with fail; refine HG.out.mono ?_; rintro e w' ⟨i, rfl, hi, ⟨nd, rfl⟩⟩; go_wp2
  go_ret
  exact ⟨by first | rfl | simp, by repeat (first | exact Drawn0.refl _ | apply Drawn0.step)⟩
theorem inOrder_w (x : Int) (w : World) : Calls Try.prog 111 #[.int .i64 x] w fun e w' => e = .returned (.bool (inQ x)) ∧ Drawn0 w w' := by
  by_cases h1 : 0 ≤ x
  · by_cases h2 : x < 1073741789
    · have HQ : Aside0 (inQ x = true) := ⟨by unfold inQ; rw [decide_eq_true h1, decide_eq_true h2]; rfl⟩
      go_enter Try.func111, Try.ntmps111
      go_wp2
      go_ret
      exact ⟨ret_b HQ.out, by repeat (first | exact Drawn0.refl _ | apply Drawn0.step)⟩
    · have HQ : Aside0 (inQ x = false) := ⟨by unfold inQ; rw [decide_eq_false h2, Bool.and_false]⟩
      have n1 : decide (x < 1073741789) = false := decide_eq_false h2
      go_enter Try.func111, Try.ntmps111
      go_wp2
      go_ret
      exact ⟨ret_b HQ.out, by repeat (first | exact Drawn0.refl _ | apply Drawn0.step)⟩
  · have HQ : Aside0 (inQ x = false) := ⟨by unfold inQ; rw [decide_eq_false h1, Bool.false_and]⟩
    have n1 : decide (0 ≤ x) = false := decide_eq_false h1
    go_enter Try.func111, Try.ntmps111
    go_wp2
    go_ret
    exact ⟨ret_b HQ.out, by repeat (first | exact Drawn0.refl _ | apply Drawn0.step)⟩
theorem notIn_w (b : Nat) (x : Int) (w : World) (hx : w.cell? ⟨b, 0, none⟩ = some (.func (.func 111) #[] #[])) : Calls Try.prog 180 #[.int .i64 x, .pointer (some ⟨b, 0, none⟩)] w fun e w' => e = .returned (.bool (!inQ x)) ∧ Drawn0 w w' := by
  have HI := Aside0.mk (inOrder_w x); generalize inQ x = q at HI ⊢
  go_enter Try.func180, Try.ntmps180
  go_wp2_with fail; refine (HI.out _).mono ?_; rintro e w' ⟨rfl, ⟨nd, rfl⟩⟩; go_wp2
  go_ret
  exact ⟨by first | rfl | simp, by repeat (first | exact Drawn0.refl _ | apply Drawn0.step)⟩
def allQ (l : List Int) : Bool := decide (l.length ≤ 64) && !l.any fun x => !inQ x
set_option maxHeartbeats 1000000 in
theorem all_w {A : Option Addr} {c : Nat} {l : List Int} {w : World} (h : Sl (Kd.int .i64) w A c l) : Calls Try.prog 112 #[.slice A l.length c, .func (.func 111) #[] #[]] w fun e w' => e = .returned (.bool (allQ l)) ∧ Below w.heap.size w w' := by
  have hmf : ∀ (fn : Fn) (first cap : Array Value) (w : World), (Instr.makeFunc fn first cap).run Try.prog w = .ok (.func fn first cap) w := fun _ _ _ _ => rfl
  obtain ⟨W1, hW1⟩ : ∃ W1, W1 = w.alloc (.cells #[.func (.func 111) #[] #[]] 77) := ⟨_, rfl⟩
  have hb : Below w.heap.size w W1 := by rw [hW1]; exact below_alloc1 _ _
  have hx : W1.cell? ⟨w.heap.size, 0, none⟩ = some (.func (.func 111) #[] #[]) := by rw [hW1]; exact (Bx.new _ _ _).1
  have hsz : w.heap.size < W1.heap.size := by rw [hW1]; simp
  have HC := Aside0.mk (contains_anyC (g := 180) (lb := #[.pointer (some ⟨w.heap.size, 0, none⟩)]) (p := fun x => !inQ x) A c l W1 (fun x W hd => notIn_w w.heap.size x W ((hd.below.cell (p := ⟨w.heap.size, 0, none⟩) hsz).trans hx)) (fun args w => enters_ Try.func180 (by kernel_rfl) rfl args w) (h.below hb).rd)
  have HQ : Aside0 (allQ l = (decide (l.length ≤ 64) && !l.any fun x => !inQ x)) := ⟨rfl⟩
  generalize (l.any fun x => !inQ x) = q at HC HQ; have HB := Aside0.mk hb; have HW := Aside0.mk hW1; clear hx hb hsz hW1 h
  by_cases hl : l.length ≤ 64
  · have d1 : decide ((l.length : Int) ≤ 64) = true := decide_eq_true (by omega)
    have d2 : decide (l.length ≤ 64) = true := decide_eq_true hl; rw [d2] at HQ
    go_enter Try.func112, Try.ntmps112
    go_wp2_with fail; rw [← HW.out]; refine HC.out.mono ?_; rintro e w' ⟨rfl, hd⟩; have HB2 := Aside0.mk (below_then HB.out HB.out.size hd.below); clear hd; go_wp2
    go_ret
    exact ⟨ret_b (by rw [HQ.out, Bool.true_and]), HB2.out⟩
  · have d1 : decide ((l.length : Int) ≤ 64) = false := decide_eq_false (by omega)
    have d2 : decide (l.length ≤ 64) = false := decide_eq_false hl; rw [d2] at HQ
    go_enter Try.func112, Try.ntmps112
    go_wp2
    go_ret
    exact ⟨ret_b (by rw [HQ.out, Bool.false_and]), below_alloc1 _ _⟩
def sumL (l : List Int) : Int := l.foldl (fun n x => Int.tmod (wrap64 (n + x)) 1073741789) 0
set_option maxHeartbeats 1000000 in
theorem sum_w {A : Option Addr} {c : Nat} {l : List Int} {w : World} (h : Sl (Kd.int .i64) w A c l) : Calls Try.prog 113 #[.slice A l.length c] w fun e w' => e = .returned (.int .i64 (sumL l)) ∧ Below w.heap.size w w' := by
  have HR := Aside0.mk h; clear h
  go_enter Try.func113, Try.ntmps113
  go_wp2
  go_loopg [2, 7] l.length (fun gk v2 v7 wr => ∃ j : Nat, j ≤ l.length ∧ gk = l.length - j ∧ v7 = .int .i64 (j : Int) ∧ v2 = .int .i64 (sumL (l.take j)) ∧ Aside0 (Below w.heap.size w wr))
  case atStart => exact ⟨0, Nat.zero_le _, rfl, rfl, rfl, ⟨by first | exact Below.refl _ _ | exact pw_below_drewN (Below.refl _ _) _⟩⟩
  case round =>
    obtain ⟨j, hj, rfl, rfl, rfl, HB⟩ := hrel
    by_cases hlt : j < l.length
    · have d1 : decide ((j : Int) < (l.length : Int)) = true := decide_eq_true (by omega)
      have d2 : decide (j < l.length) = true := decide_eq_true hlt
      have d3 : (0 : Int) ≤ (j : Int) := by omega
      obtain ⟨ad, e, hx⟩ := Kd.at_int HR.out.rd (j : Int) (by omega) (by omega); cases e; rw [rd_nat, Int.toNat_natCast] at hx; replace hx := (HB.out.cell (World.block_lt_of_cell? w _ hx)).trans hx
      have hs : sumL (l.take (j + 1)) = Int.tmod (wrap64 (sumL (l.take j) + l.getD j 0)) 1073741789 := by
        unfold sumL
        rw [List.take_succ_eq_append_getElem hlt, List.foldl_append, List.getD_eq_getElem?_getD, List.getElem?_eq_getElem hlt]; rfl
      have HS := Aside0.mk hs; have HL := Aside0.mk HR.out.rd.2.1; generalize sumL (l.take j) = s at HS ⊢; generalize l.getD j 0 = x at hx HS; clear hs; go_wp2
      go_roundg (l.length - (j + 1))
      case measure => omega
      case rel => exact ⟨j + 1, by omega, rfl, by first | rfl | rw [wrap_nextB (by have := HL.out; omega)], by rw [HS.out], ⟨by first | exact HB.out | exact pw_below_drewN HB.out _⟩⟩
    · obtain rfl : j = l.length := by omega
      have d1 : decide ((l.length : Int) < (l.length : Int)) = false := decide_eq_false (by omega); rw [List.take_length]; go_wp2
      go_ret
      exact ⟨rfl, HB.out⟩
end Go.Proofs.Ytdbamhckgaoibaa.P
namespace Go.Proofs.Ytdbamhckgaoibaa.P
open Go.RowKit Go.Proofs.YtdbamhckgaoibaaW.PrintWords Go.Proofs.YtdbamhckgaoibaaW.PrintLast Go.Proofs.YtdbamhckgaoibaaW.PrintMore
set_option linter.unusedVariables false
def partQ (y f0 f1 : Int) (masks : List Int) : Int × Int :=
  if inQ y = true then (if allQ masks = true then (if 0 ≤ f0 then (if f0 < 64 then (if inQ f1 = true then (sumL [Int.tmod (wrap64 (y * f1)) 1073741789, sumL masks], 0) else (0, 340)) else (0, 340)) else (0, 340)) else (0, 1)) else (0, 1)
theorem sum2_c (W : World) (a b : Int) : Calls Try.prog 113 #[.slice (some ⟨W.heap.size, 0, none⟩) 2 2] (W.alloc (.cells #[.int .i64 a, .int .i64 b] 3)) fun e w' => e = .returned (.int .i64 (sumL [a, b])) ∧ Below W.heap.size W w' :=
  (sum_w (Sl.ints W 3 [a, b] (by show 2 ≤ 1000000; decide))).mono fun e w' h => ⟨h.1, below_then (below_alloc1 _ _) (below_alloc1 _ _).size h.2⟩
set_option maxRecDepth 100000 in
set_option maxHeartbeats 4000000 in
theorem part_w {y f0 f1 : Int} {A2 : Option Addr} {c2 : Nat} {masks : List Int} {w : World} (h2 : Sl (Kd.int .i64) w A2 c2 masks) :
    Calls Try.prog 42 #[.int .i64 y, .agg #[.int .i64 f0, .int .i64 f1], .slice A2 masks.length c2] w fun e w' => e = .returned (.tuple #[.int .i64 (partQ y f0 f1 masks).1, .int .i64 (partQ y f0 f1 masks).2]) ∧ Below w.heap.size w w' := by
  have H_m := Aside0.mk h2; have HB := Aside0.mk (Below.refl w.heap.size w)
  have HP : Aside0 (partQ y f0 f1 masks = if inQ y = true then (if allQ masks = true then (if 0 ≤ f0 then (if f0 < 64 then (if inQ f1 = true then (sumL [Int.tmod (wrap64 (y * f1)) 1073741789, sumL masks], 0) else (0, 340)) else (0, 340)) else (0, 340)) else (0, 1)) else (0, 1)) := ⟨rfl⟩
  have HI := Aside0.mk (inOrder_w y); generalize inQ y = q at HI HP; have HS := Aside0.mk (fun (W : World) (g : Sl (Kd.int .i64) W A2 c2 masks) => sum_w g); have HA := Aside0.mk (fun (W : World) (g : Sl (Kd.int .i64) W A2 c2 masks) => all_w g); have HI1 := Aside0.mk (inOrder_w f1); generalize sumL masks = sm at HS HP; generalize allQ masks = qa at HA HP; generalize inQ f1 = q1 at HI1 HP; clear h2
  go_enter Try.func42, Try.ntmps42
  go_wp2_with fail
  obtain ⟨w1, hw⟩ : ∃ W_, W_ = w.alloc (.cells #[.int .i64 f0, .int .i64 f1] 38) := ⟨_, rfl⟩
  rw [← hw]
  have hb : Below w.heap.size w w1 := by rw [hw]; exact below_alloc1 _ _
  have hz : w.heap.size = w.heap.size := rfl
  have hs : w1.heap.size = w.heap.size + 1 := by rw [hw, ← hz]; simp
  replace H_m := Aside0.mk (H_m.out.below hb); replace HB := Aside0.mk (below_then HB.out HB.out.size hb); have H_sh0 := Aside0.mk (⟨by rw [hw, ← hz]; simp only [World.cell?]; rw [World.alloc_heap_new]; rfl, by rw [hs]; omega⟩ : w1.cell? ⟨w.heap.size, 0, none⟩ = some (.int .i64 f0) ∧ w.heap.size < w1.heap.size); have H_sh1 := Aside0.mk (⟨by rw [hw, ← hz]; simp only [World.cell?]; rw [World.alloc_heap_new]; rfl, by rw [hs]; omega⟩ : w1.cell? ⟨w.heap.size, 1, none⟩ = some (.int .i64 f1) ∧ w.heap.size < w1.heap.size); clear hw hb hz
  have HZ := Aside0.mk hs; clear hs
  refine (HI.out _).mono ?_; rintro e w2 ⟨rfl, hd⟩; have hb := hd.below; clear hd; replace H_m := Aside0.mk (H_m.out.below hb); replace H_sh0 := Aside0.mk (cell_on H_sh0.out hb); replace H_sh1 := Aside0.mk (cell_on H_sh1.out hb); replace HB := Aside0.mk (below_then HB.out HB.out.size hb); clear hb
  cases q with
  | false =>
    go_wp2
    go_ret2
    exact ⟨ret_ii (by rw [HP.out]; simp []), HB.out⟩
  | true =>
    go_wp2_with fail; refine (HA.out _ H_m.out).mono ?_; rintro e w3 ⟨rfl, hb⟩; replace H_m := Aside0.mk (H_m.out.below hb); replace H_sh0 := Aside0.mk (cell_on H_sh0.out hb); replace H_sh1 := Aside0.mk (cell_on H_sh1.out hb); replace HB := Aside0.mk (below_then HB.out HB.out.size hb); clear hb
    cases qa with
    | false =>
      go_wp2
      go_ret2
      exact ⟨ret_ii (by rw [HP.out]; simp []), HB.out⟩
    | true =>
      by_cases g0 : 0 ≤ f0
      · skip
        by_cases g1 : f0 < 64
        · skip
          have n0 : decide (f0 < 0) = false := decide_eq_false (by omega); have n1 : decide (64 ≤ f0) = false := decide_eq_false (by omega); have HG := Aside0.mk (And.intro g0 g1); clear g0 g1; have x_sh0 := H_sh0.out.1; have x_sh1 := H_sh1.out.1; go_wp2_with fail; clear x_sh0 x_sh1; refine (HI1.out _).mono ?_; rintro e w4 ⟨rfl, hd⟩; have hb := hd.below; clear hd; replace H_m := Aside0.mk (H_m.out.below hb); replace H_sh0 := Aside0.mk (cell_on H_sh0.out hb); replace H_sh1 := Aside0.mk (cell_on H_sh1.out hb); replace HB := Aside0.mk (below_then HB.out HB.out.size hb); clear hb
          cases q1 with
          | false =>
            go_wp2
            go_ret2
            exact ⟨ret_ii (by rw [HP.out]; simp [HG.out.1, HG.out.2]), HB.out⟩
          | true =>
            have x_sh1 := H_sh1.out.1
            go_upto_region 5 with fail
            go_region_with (first
              | (go_at_call_of 113 (Value.slice A2 masks.length c2); refine (HS.out _ ?_).mono ?_; exact H_m.out.below ((Below.refl _ _).drew); rintro e w5 ⟨rfl, hb⟩; have x5 := (cell_on H_sh1.out (Below.trans ((Below.refl _ _).drew) hb)).1; have HB5 := Aside0.mk (below_then HB.out HB.out.size (Below.trans ((Below.refl _ _).drew) hb)); clear hb)
              | (refine (sum2_c w5 _ _).mono ?_; rintro e w6 ⟨rfl, hb⟩; have HB6 := Aside0.mk (below_then HB5.out HB5.out.size hb); clear hb))
            all_goals go_wp2
            all_goals go_ret2
            all_goals exact ⟨ret_ii (by rw [HP.out, i64_w]; simp only [if_true, if_pos HG.out.1, if_pos HG.out.2]), HB6.out⟩
        · skip
          have n0 : decide (f0 < 0) = false := decide_eq_false (by omega); have n1 : decide (64 ≤ f0) = true := decide_eq_true (by omega); have HG := Aside0.mk (And.intro g0 g1); clear g0 g1; have x_sh0 := H_sh0.out.1; have x_sh1 := H_sh1.out.1; go_wp2
          go_ret2
          exact ⟨ret_ii (by rw [HP.out]; simp [HG.out.1, Int.not_lt.mpr HG.out.2]), HB.out⟩
      · skip
        have n0 : decide (f0 < 0) = true := decide_eq_true (by omega); have HG := Aside0.mk g0; clear g0; have x_sh0 := H_sh0.out.1; go_wp2
        go_ret2
        exact ⟨ret_ii (by rw [HP.out]; simp [Int.not_le.mpr HG.out]), HB.out⟩
end Go.Proofs.Ytdbamhckgaoibaa.P
namespace Go.Proofs.Ytdbamhckgaoibaa.P
open Go.RowKit Go.Proofs.YtdbamhckgaoibaaW.PrintWords Go.Proofs.YtdbamhckgaoibaaW.PrintLast Go.Proofs.YtdbamhckgaoibaaW.PrintMore
set_option linter.unusedVariables false
def finishQ (rows : List (List Int)) (owners cm : List Int) (row : Int) (parts : List Int) : Int × Int × Bool × Int :=
  if (publicD rows owners cm row).2 = 0 then (if allQ parts = true then (if (fitsD rows owners cm row (sumL parts)).2 = 0 ∧ (fitsD rows owners cm row (sumL parts)).1 = true then (row, sumL parts, true, 0) else (0, 0, false, (fitsD rows owners cm row (sumL parts)).2)) else (0, 0, false, 1)) else (0, 0, false, (publicD rows owners cm row).2)
theorem results_fin (tmps : Array Value) (W : World) (b : Nat) (a c v7 v8 : Value) (h6 : tmps[6]?.getD undef = .pointer (some ⟨b, 0, none⟩)) (h7 : tmps[7]?.getD undef = v7) (h8 : tmps[8]?.getD undef = v8) (ha : W.cell? ⟨b, 0, none⟩ = some a) (hc : W.cell? ⟨b, 1, none⟩ = some c) :
    (results Try.f45 tmps).run Try.prog W = .ok (.tuple #[.agg #[a, c], v7, v8]) W := by
  simp [results, Try.results45, go_sem, h6, h7, h8, ha, hc]
theorem two_set {W : World} {b : Nat} {x0 x1 : Value} (h0 : W.cell? ⟨b, 0, none⟩ = some x0) (h1 : W.cell? ⟨b, 1, none⟩ = some x1) (a c : Value) :
    ((W.setCell ⟨b, 0, none⟩ a).setCell ⟨b, 1, none⟩ c).cell? ⟨b, 0, none⟩ = some a ∧ ((W.setCell ⟨b, 0, none⟩ a).setCell ⟨b, 1, none⟩ c).cell? ⟨b, 1, none⟩ = some c ∧ (∀ j, ((W.setCell ⟨b, 0, none⟩ a).setCell ⟨b, 1, none⟩ c).frozen? ⟨b, j, none⟩ = W.frozen? ⟨b, j, none⟩) ∧ ∀ b' j, b ≠ b' → ((W.setCell ⟨b, 0, none⟩ a).setCell ⟨b, 1, none⟩ c).cell? ⟨b', j, none⟩ = W.cell? ⟨b', j, none⟩ := by
  have e1 : (W.setCell ⟨b, 0, none⟩ a).cell? ⟨b, 0, none⟩ = some a := World.cell?_setCell_same' _ _ _ (by rw [h0]; rfl); have e2 : (W.setCell ⟨b, 0, none⟩ a).cell? ⟨b, 1, none⟩ = some x1 := (World.cell?_setCell_other _ _ _ _ (by simp)).trans h1; refine ⟨(World.cell?_setCell_other _ _ _ _ (by simp)).trans e1, World.cell?_setCell_same' _ _ _ (by rw [e2]; rfl), fun j => by rw [World.frozen?_setCell, World.frozen?_setCell], fun b' j hne => ?_⟩; rw [World.cell?_setCell_far _ ⟨b, 1, none⟩ ⟨b', j, none⟩ _ hne, World.cell?_setCell_far _ ⟨b, 0, none⟩ ⟨b', j, none⟩ _ hne]
theorem ret_fin {a b d : Int} {q : Bool} {p : Int × Int × Bool × Int} (h : p = (a, b, q, d)) : Ending.returned (.tuple #[.agg #[.int .i64 a, .int .i64 b], .bool q, .int .i64 d]) = .returned (.tuple #[.agg #[.int .i64 p.1, .int .i64 p.2.1], .bool p.2.2.1, .int .i64 p.2.2.2]) := by rw [h]
theorem frz_on {w w' : World} {b j : Nat} (h : w.frozen? ⟨b, j, none⟩ = false ∧ b < w.heap.size) (hb : Below w.heap.size w w') : w'.frozen? ⟨b, j, none⟩ = false ∧ b < w'.heap.size :=
  ⟨(hb.frozen (p := ⟨b, j, none⟩) h.2).trans h.1, Nat.lt_of_lt_of_le h.2 hb.size⟩
set_option maxRecDepth 100000 in
set_option maxHeartbeats 4000000 in
theorem finish_w {A0 A1 A2 : Option Addr} {c0 c1 c2 : Nat} {rows : List (List Int)} {owners : List Int} {cm : List Int} {ep row : Int} {A3 : Option Addr} {c3 : Nat} {parts : List Int} {w : World} (h0 : Sl (Kd.slice 3 (Kd.int .i64)) w A0 c0 rows) (h1 : Sl (Kd.int .i64) w A1 c1 owners) (h2 : Sl (Kd.int .i64) w A2 c2 cm) (h3 : Sl (Kd.int .i64) w A3 c3 parts) :
    Calls Try.prog 45 #[.agg #[.int .i64 ep, .slice A0 rows.length c0, .slice A1 owners.length c1, .slice A2 cm.length c2], .int .i64 row, .slice A3 parts.length c3] w fun e w' => e = .returned (.tuple #[.agg #[.int .i64 (finishQ rows owners cm row parts).1, .int .i64 (finishQ rows owners cm row parts).2.1], .bool (finishQ rows owners cm row parts).2.2.1, .int .i64 (finishQ rows owners cm row parts).2.2.2]) ∧ Below w.heap.size w w' := by
  have H_rows := Aside0.mk h0; have H_own := Aside0.mk h1; have H_cm := Aside0.mk h2; have H_m := Aside0.mk h3; have HB := Aside0.mk (Below.refl w.heap.size w); clear h0 h1 h2 h3
  obtain ⟨t0, t, ht⟩ : ∃ t0 t, publicD rows owners cm row = (t0, t) := ⟨_, _, rfl⟩
  have HP : Aside0 (∀ W, Sl (Kd.slice 3 (Kd.int .i64)) W A0 c0 rows → Sl (Kd.int .i64) W A1 c1 owners → Sl (Kd.int .i64) W A2 c2 cm → Calls Try.prog 28 #[.agg #[.slice A0 rows.length c0, .slice A1 owners.length c1], .slice A2 cm.length c2, .int .i64 row] W fun e w' => e = .returned (.tuple #[.int .i64 t0, .int .i64 t]) ∧ Below W.heap.size W w') := ⟨fun W g0 g1 g2 => by have := public_w (row := row) g0 g1 g2; rwa [ht] at this⟩
  have HS := Aside0.mk (fun (W : World) (g : Sl (Kd.int .i64) W A3 c3 parts) => sum_w g); have HA := Aside0.mk (fun (W : World) (g : Sl (Kd.int .i64) W A3 c3 parts) => all_w g)
  obtain ⟨b, u, hu⟩ : ∃ b u, fitsD rows owners cm row (sumL parts) = (b, u) := ⟨_, _, rfl⟩
  have HFT : Aside0 (∀ W, Sl (Kd.slice 3 (Kd.int .i64)) W A0 c0 rows → Sl (Kd.int .i64) W A1 c1 owners → Sl (Kd.int .i64) W A2 c2 cm → Calls Try.prog 30 #[.agg #[.slice A0 rows.length c0, .slice A1 owners.length c1], .slice A2 cm.length c2, .agg #[.int .i64 row, .int .i64 (sumL parts)]] W fun e w' => e = .returned (.tuple #[.bool b, .int .i64 u]) ∧ Below W.heap.size W w') := ⟨fun W g0 g1 g2 => by have := fits_w (row := row) (v := sumL parts) g0 g1 g2; rwa [hu] at this⟩
  have HF : Aside0 (finishQ rows owners cm row parts = if t = 0 then (if allQ parts = true then (if u = 0 ∧ b = true then (row, sumL parts, true, 0) else (0, 0, false, u)) else (0, 0, false, 1)) else (0, 0, false, t)) := ⟨by unfold finishQ; rw [ht, hu]⟩
  generalize sumL parts = sm at HS HFT HF; generalize allQ parts = qa at HA HF; clear ht hu; have HG := Aside0.mk (And.intro H_rows.out (And.intro H_own.out H_cm.out))
  go_enter Try.func45, Try.ntmps45
  go_wp2_with fail
  obtain ⟨w1, hw⟩ : ∃ W_, W_ = w.alloc (.cells #[.int .i64 ep, .slice A0 rows.length c0, .slice A1 owners.length c1, .slice A2 cm.length c2] 57) := ⟨_, rfl⟩
  rw [← hw]
  have hb : Below w.heap.size w w1 := by rw [hw]; exact below_alloc1 _ _
  have hz : w.heap.size = w.heap.size := rfl
  have hs : w1.heap.size = w.heap.size + 1 := by rw [hw, ← hz]; simp
  replace H_rows := Aside0.mk (H_rows.out.below hb); replace H_own := Aside0.mk (H_own.out.below hb); replace H_cm := Aside0.mk (H_cm.out.below hb); replace H_m := Aside0.mk (H_m.out.below hb); replace HB := Aside0.mk (below_then HB.out HB.out.size hb); have H_ky0 := Aside0.mk (⟨by rw [hw, ← hz]; simp only [World.cell?]; rw [World.alloc_heap_new]; rfl, by rw [hs]; omega⟩ : w1.cell? ⟨w.heap.size, 0, none⟩ = some (.int .i64 ep) ∧ w.heap.size < w1.heap.size); have H_ky1 := Aside0.mk (⟨by rw [hw, ← hz]; simp only [World.cell?]; rw [World.alloc_heap_new]; rfl, by rw [hs]; omega⟩ : w1.cell? ⟨w.heap.size, 1, none⟩ = some (.slice A0 rows.length c0) ∧ w.heap.size < w1.heap.size); have H_ky2 := Aside0.mk (⟨by rw [hw, ← hz]; simp only [World.cell?]; rw [World.alloc_heap_new]; rfl, by rw [hs]; omega⟩ : w1.cell? ⟨w.heap.size, 2, none⟩ = some (.slice A1 owners.length c1) ∧ w.heap.size < w1.heap.size); have H_ky3 := Aside0.mk (⟨by rw [hw, ← hz]; simp only [World.cell?]; rw [World.alloc_heap_new]; rfl, by rw [hs]; omega⟩ : w1.cell? ⟨w.heap.size, 3, none⟩ = some (.slice A2 cm.length c2) ∧ w.heap.size < w1.heap.size); clear hw hb hz
  have HZ := Aside0.mk hs; clear hs
  obtain ⟨w2, hw⟩ : ∃ W_, W_ = w1.alloc (.cells #[.int .i64 0, .int .i64 0] 38) := ⟨_, rfl⟩
  rw [← hw]
  have hb : Below w1.heap.size w1 w2 := by rw [hw]; exact below_alloc1 _ _
  have hz : w1.heap.size = w.heap.size + 1 := HZ.out
  have hs : w2.heap.size = w.heap.size + 1 + 1 := by rw [hw, ← hz]; simp
  replace H_rows := Aside0.mk (H_rows.out.below hb); replace H_own := Aside0.mk (H_own.out.below hb); replace H_cm := Aside0.mk (H_cm.out.below hb); replace H_m := Aside0.mk (H_m.out.below hb); replace H_ky0 := Aside0.mk (cell_on H_ky0.out hb); replace H_ky1 := Aside0.mk (cell_on H_ky1.out hb); replace H_ky2 := Aside0.mk (cell_on H_ky2.out hb); replace H_ky3 := Aside0.mk (cell_on H_ky3.out hb); replace HB := Aside0.mk (below_then HB.out HB.out.size hb); have H_rs0 := Aside0.mk (⟨by rw [hw, ← hz]; simp only [World.cell?]; rw [World.alloc_heap_new]; rfl, by rw [hs]; omega⟩ : w2.cell? ⟨w.heap.size + 1, 0, none⟩ = some (.int .i64 0) ∧ w.heap.size + 1 < w2.heap.size); have H_zrs0 := Aside0.mk (⟨by rw [hw, ← hz]; exact World.frozen?_alloc_at _ _ _ _ rfl, by rw [hs]; omega⟩ : w2.frozen? ⟨w.heap.size + 1, 0, none⟩ = false ∧ w.heap.size + 1 < w2.heap.size); have H_rs1 := Aside0.mk (⟨by rw [hw, ← hz]; simp only [World.cell?]; rw [World.alloc_heap_new]; rfl, by rw [hs]; omega⟩ : w2.cell? ⟨w.heap.size + 1, 1, none⟩ = some (.int .i64 0) ∧ w.heap.size + 1 < w2.heap.size); have H_zrs1 := Aside0.mk (⟨by rw [hw, ← hz]; exact World.frozen?_alloc_at _ _ _ _ rfl, by rw [hs]; omega⟩ : w2.frozen? ⟨w.heap.size + 1, 1, none⟩ = false ∧ w.heap.size + 1 < w2.heap.size); clear hw hb hz
  have HZ := Aside0.mk hs; clear hs
  refine (HP.out _ H_rows.out H_own.out H_cm.out).mono ?_; rintro e w3 ⟨rfl, hb⟩; replace H_rows := Aside0.mk (H_rows.out.below hb); replace H_own := Aside0.mk (H_own.out.below hb); replace H_cm := Aside0.mk (H_cm.out.below hb); replace H_m := Aside0.mk (H_m.out.below hb); replace H_ky0 := Aside0.mk (cell_on H_ky0.out hb); replace H_ky1 := Aside0.mk (cell_on H_ky1.out hb); replace H_ky2 := Aside0.mk (cell_on H_ky2.out hb); replace H_ky3 := Aside0.mk (cell_on H_ky3.out hb); replace H_rs0 := Aside0.mk (cell_on H_rs0.out hb); replace H_zrs0 := Aside0.mk (frz_on H_zrs0.out hb); replace H_rs1 := Aside0.mk (cell_on H_rs1.out hb); replace H_zrs1 := Aside0.mk (frz_on H_zrs1.out hb); replace HB := Aside0.mk (below_then HB.out HB.out.size hb); clear hb
  rcases Decidable.em (t = 0) with h | h
  · skip
    subst h; go_wp2_with fail; refine (HA.out _ H_m.out).mono ?_; rintro e w4 ⟨rfl, hb⟩; replace H_rows := Aside0.mk (H_rows.out.below hb); replace H_own := Aside0.mk (H_own.out.below hb); replace H_cm := Aside0.mk (H_cm.out.below hb); replace H_m := Aside0.mk (H_m.out.below hb); replace H_ky0 := Aside0.mk (cell_on H_ky0.out hb); replace H_ky1 := Aside0.mk (cell_on H_ky1.out hb); replace H_ky2 := Aside0.mk (cell_on H_ky2.out hb); replace H_ky3 := Aside0.mk (cell_on H_ky3.out hb); replace H_rs0 := Aside0.mk (cell_on H_rs0.out hb); replace H_zrs0 := Aside0.mk (frz_on H_zrs0.out hb); replace H_rs1 := Aside0.mk (cell_on H_rs1.out hb); replace H_zrs1 := Aside0.mk (frz_on H_zrs1.out hb); replace HB := Aside0.mk (below_then HB.out HB.out.size hb); clear hb
    cases qa with
    | false =>
      have hhb := H_rs0.out.2; have x_rs0 := H_rs0.out.1; have x_rs1 := H_rs1.out.1; have x_zrs0 := H_zrs0.out.1; have x_zrs1 := H_zrs1.out.1; go_wp2; have hts := two_set H_rs0.out.1 H_rs1.out.1 (.int .i64 0) (.int .i64 0); refine bodyPost_ret (results_fin _ _ (w.heap.size + 1) (.int .i64 0) (.int .i64 0) _ _ rfl rfl rfl hts.1 hts.2.1) rfl ?_; exact ⟨ret_fin (by rw [HF.out]; simp), (HB.out.setCell (Nat.le_add_right _ _) _).setCell (Nat.le_add_right _ _) _⟩
    | true =>
      go_wp2_with fail; refine (HS.out _ H_m.out).mono ?_; rintro e w5 ⟨rfl, hb⟩; replace H_rows := Aside0.mk (H_rows.out.below hb); replace H_own := Aside0.mk (H_own.out.below hb); replace H_cm := Aside0.mk (H_cm.out.below hb); replace H_m := Aside0.mk (H_m.out.below hb); replace H_ky0 := Aside0.mk (cell_on H_ky0.out hb); replace H_ky1 := Aside0.mk (cell_on H_ky1.out hb); replace H_ky2 := Aside0.mk (cell_on H_ky2.out hb); replace H_ky3 := Aside0.mk (cell_on H_ky3.out hb); replace H_rs0 := Aside0.mk (cell_on H_rs0.out hb); replace H_zrs0 := Aside0.mk (frz_on H_zrs0.out hb); replace H_rs1 := Aside0.mk (cell_on H_rs1.out hb); replace H_zrs1 := Aside0.mk (frz_on H_zrs1.out hb); replace HB := Aside0.mk (below_then HB.out HB.out.size hb); clear hb; have hhb := H_rs0.out.2; have x_rs0 := H_rs0.out.1; have x_rs1 := H_rs1.out.1; have x_zrs0 := H_zrs0.out.1; have x_zrs1 := H_zrs1.out.1
      go_upto_region 7 with fail
      clear x_rs0 x_rs1 x_zrs0 x_zrs1
      obtain ⟨w6, hW⟩ : ∃ W_, W_ = (w5.setCell ⟨w.heap.size + 1, 0, none⟩ (.int .i64 row)).setCell ⟨w.heap.size + 1, 1, none⟩ (.int .i64 sm) := ⟨_, rfl⟩
      rw [← hW]; have hts := two_set H_rs0.out.1 H_rs1.out.1 (.int .i64 row) (.int .i64 sm); rw [← hW] at hts
      have hsz : w6.heap.size = w5.heap.size := by rw [hW]; simp [World.setCell]
      have hb2 : Below w.heap.size w w6 := by rw [hW]; exact (HB.out.setCell (Nat.le_add_right _ _) _).setCell (Nat.le_add_right _ _) _
      replace H_ky1 := Aside0.mk (And.intro ((hts.2.2.2 _ 1 (by omega)).trans H_ky1.out.1) (show w.heap.size < w6.heap.size by rw [hsz]; exact H_ky1.out.2)); replace H_ky2 := Aside0.mk (And.intro ((hts.2.2.2 _ 2 (by omega)).trans H_ky2.out.1) (show w.heap.size < w6.heap.size by rw [hsz]; exact H_ky2.out.2)); replace H_ky3 := Aside0.mk (And.intro ((hts.2.2.2 _ 3 (by omega)).trans H_ky3.out.1) (show w.heap.size < w6.heap.size by rw [hsz]; exact H_ky3.out.2)); replace H_rs0 := Aside0.mk (And.intro hts.1 (show w.heap.size + 1 < w6.heap.size by rw [hsz]; exact H_rs0.out.2)); replace H_zrs0 := Aside0.mk (And.intro ((hts.2.2.1 0).trans H_zrs0.out.1) (show w.heap.size + 1 < w6.heap.size by rw [hsz]; exact H_zrs0.out.2)); replace H_rs1 := Aside0.mk (And.intro hts.2.1 (show w.heap.size + 1 < w6.heap.size by rw [hsz]; exact H_rs1.out.2)); replace H_zrs1 := Aside0.mk (And.intro ((hts.2.2.1 1).trans H_zrs1.out.1) (show w.heap.size + 1 < w6.heap.size by rw [hsz]; exact H_zrs1.out.2)); replace HB := Aside0.mk hb2; replace H_rows := Aside0.mk (HG.out.1.below hb2); replace H_own := Aside0.mk (HG.out.2.1.below hb2); replace H_cm := Aside0.mk (HG.out.2.2.below hb2); clear H_ky0 H_m hW hts hsz hb2 hhb
      rcases Decidable.em (u = 0) with hu | hu
      · skip
        subst hu
        cases b with
        | false =>
          have x_ky1 := H_ky1.out.1; have x_ky2 := H_ky2.out.1; have x_ky3 := H_ky3.out.1; have x_rs0 := H_rs0.out.1; have x_rs1 := H_rs1.out.1; go_wp2_with fail; clear x_ky1 x_ky2 x_ky3 x_rs0 x_rs1; refine (HFT.out _ H_rows.out H_own.out H_cm.out).mono ?_; rintro e w7 ⟨rfl, hb⟩; replace H_rows := Aside0.mk (H_rows.out.below hb); replace H_own := Aside0.mk (H_own.out.below hb); replace H_cm := Aside0.mk (H_cm.out.below hb); replace H_ky1 := Aside0.mk (cell_on H_ky1.out hb); replace H_ky2 := Aside0.mk (cell_on H_ky2.out hb); replace H_ky3 := Aside0.mk (cell_on H_ky3.out hb); replace H_rs0 := Aside0.mk (cell_on H_rs0.out hb); replace H_zrs0 := Aside0.mk (frz_on H_zrs0.out hb); replace H_rs1 := Aside0.mk (cell_on H_rs1.out hb); replace H_zrs1 := Aside0.mk (frz_on H_zrs1.out hb); replace HB := Aside0.mk (below_then HB.out HB.out.size hb); clear hb; have hhb := H_rs0.out.2; have x_rs0 := H_rs0.out.1; have x_rs1 := H_rs1.out.1; have x_zrs0 := H_zrs0.out.1; have x_zrs1 := H_zrs1.out.1; go_wp2; have hts := two_set H_rs0.out.1 H_rs1.out.1 (.int .i64 0) (.int .i64 0); refine bodyPost_ret (results_fin _ _ (w.heap.size + 1) (.int .i64 0) (.int .i64 0) _ _ rfl rfl rfl hts.1 hts.2.1) rfl ?_; exact ⟨ret_fin (by rw [HF.out]; simp), (HB.out.setCell (Nat.le_add_right _ _) _).setCell (Nat.le_add_right _ _) _⟩
        | true =>
          have x_ky1 := H_ky1.out.1; have x_ky2 := H_ky2.out.1; have x_ky3 := H_ky3.out.1; have x_rs0 := H_rs0.out.1; have x_rs1 := H_rs1.out.1; go_wp2_with fail; clear x_ky1 x_ky2 x_ky3 x_rs0 x_rs1; refine (HFT.out _ H_rows.out H_own.out H_cm.out).mono ?_; rintro e w7 ⟨rfl, hb⟩; replace H_rows := Aside0.mk (H_rows.out.below hb); replace H_own := Aside0.mk (H_own.out.below hb); replace H_cm := Aside0.mk (H_cm.out.below hb); replace H_ky1 := Aside0.mk (cell_on H_ky1.out hb); replace H_ky2 := Aside0.mk (cell_on H_ky2.out hb); replace H_ky3 := Aside0.mk (cell_on H_ky3.out hb); replace H_rs0 := Aside0.mk (cell_on H_rs0.out hb); replace H_zrs0 := Aside0.mk (frz_on H_zrs0.out hb); replace H_rs1 := Aside0.mk (cell_on H_rs1.out hb); replace H_zrs1 := Aside0.mk (frz_on H_zrs1.out hb); replace HB := Aside0.mk (below_then HB.out HB.out.size hb); clear hb; have hhb := H_rs0.out.2; have x_rs0 := H_rs0.out.1; have x_rs1 := H_rs1.out.1; have x_zrs0 := H_zrs0.out.1; have x_zrs1 := H_zrs1.out.1; go_wp2; have hts := two_set H_rs0.out.1 H_rs1.out.1 (.int .i64 row) (.int .i64 sm); refine bodyPost_ret (results_fin _ _ (w.heap.size + 1) (.int .i64 row) (.int .i64 sm) _ _ rfl rfl rfl hts.1 hts.2.1) rfl ?_; exact ⟨ret_fin (by rw [HF.out]; simp), (HB.out.setCell (Nat.le_add_right _ _) _).setCell (Nat.le_add_right _ _) _⟩
      · skip
        have q1 : (u == 0) = false := beq_eq_false_iff_ne.mpr hu; have q2 : (u != 0) = true := bne_iff_ne.mpr hu; have HU := Aside0.mk hu; have x_ky1 := H_ky1.out.1; have x_ky2 := H_ky2.out.1; have x_ky3 := H_ky3.out.1; have x_rs0 := H_rs0.out.1; have x_rs1 := H_rs1.out.1; go_wp2_with fail; clear x_ky1 x_ky2 x_ky3 x_rs0 x_rs1; refine (HFT.out _ H_rows.out H_own.out H_cm.out).mono ?_; rintro e w7 ⟨rfl, hb⟩; replace H_rows := Aside0.mk (H_rows.out.below hb); replace H_own := Aside0.mk (H_own.out.below hb); replace H_cm := Aside0.mk (H_cm.out.below hb); replace H_ky1 := Aside0.mk (cell_on H_ky1.out hb); replace H_ky2 := Aside0.mk (cell_on H_ky2.out hb); replace H_ky3 := Aside0.mk (cell_on H_ky3.out hb); replace H_rs0 := Aside0.mk (cell_on H_rs0.out hb); replace H_zrs0 := Aside0.mk (frz_on H_zrs0.out hb); replace H_rs1 := Aside0.mk (cell_on H_rs1.out hb); replace H_zrs1 := Aside0.mk (frz_on H_zrs1.out hb); replace HB := Aside0.mk (below_then HB.out HB.out.size hb); clear hb; have hhb := H_rs0.out.2; have x_rs0 := H_rs0.out.1; have x_rs1 := H_rs1.out.1; have x_zrs0 := H_zrs0.out.1; have x_zrs1 := H_zrs1.out.1; go_wp2; have hts := two_set H_rs0.out.1 H_rs1.out.1 (.int .i64 0) (.int .i64 0); refine bodyPost_ret (results_fin _ _ (w.heap.size + 1) (.int .i64 0) (.int .i64 0) _ _ rfl rfl rfl hts.1 hts.2.1) rfl ?_; exact ⟨ret_fin (by rw [HF.out]; simp [HU.out]), (HB.out.setCell (Nat.le_add_right _ _) _).setCell (Nat.le_add_right _ _) _⟩
  · skip
    have q1 : (t == 0) = false := beq_eq_false_iff_ne.mpr h; have q2 : (t != 0) = true := bne_iff_ne.mpr h; have HU := Aside0.mk h; have hhb := H_rs0.out.2; have x_rs0 := H_rs0.out.1; have x_rs1 := H_rs1.out.1; have x_zrs0 := H_zrs0.out.1; have x_zrs1 := H_zrs1.out.1; go_wp2; have hts := two_set H_rs0.out.1 H_rs1.out.1 (.int .i64 0) (.int .i64 0); refine bodyPost_ret (results_fin _ _ (w.heap.size + 1) (.int .i64 0) (.int .i64 0) _ _ rfl rfl rfl hts.1 hts.2.1) rfl ?_; exact ⟨ret_fin (by rw [HF.out]; simp [HU.out]), (HB.out.setCell (Nat.le_add_right _ _) _).setCell (Nat.le_add_right _ _) _⟩
end Go.Proofs.Ytdbamhckgaoibaa.P
