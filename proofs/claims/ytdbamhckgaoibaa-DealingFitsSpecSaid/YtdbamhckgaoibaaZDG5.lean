/- A part of the proof of DealingFitsSpec: dealing.Deal in plain words.; dealing.Deal, Public and Fits of what was dealt.; What comparing lists answers; and examples that the sanity functions ask, reckoned without any inverse but that of 1. -/
import Derived.Test.YtdbamhckgaoibaaZDG4
namespace Go.Proofs.Ytdbamhckgaoibaa.P
open Go.RowKit Go.Proofs.YtdbamhckgaoibaaW.PrintWords Go.Proofs.YtdbamhckgaoibaaW.PrintLast Go.Proofs.YtdbamhckgaoibaaW.PrintMore
set_option linter.unusedVariables false
def dealQ (rows : List (List Int)) (owners : List Int) (secret : Int) (random : List Int) : List S38 × List Int × Int :=
  if checkP rows owners = 0 then (if inQ secret && !random.any outQ && decide (random.length + 1 = colsP rows) then (sharesQ rows (secret :: random), (secret :: random).map commitQ, 0) else ([], [], 1)) else ([], [], checkP rows owners)
theorem numbers_w {A : Option Addr} {c : Nat} {l : List Int} {W : World} (h : Sl (Kd.int .i64) W A c l) : Calls Try.prog 83 #[.slice A l.length c] W fun e w' => e = .returned (.bool (!l.any outQ)) ∧ Below W.heap.size W w' :=
  (dealing_numbers.calls A c l (!l.any outQ) W h.rd h.le (by unfold dealing_numbers.f contains_outQ.f; rfl)).mono fun _ _ h => ⟨h.1, h.2.below⟩
theorem cols_le {rows : List (List Int)} {owners : List Int} (h : checkP rows owners = 0) : colsP rows ≤ 64 := by
  have hP := check_ok h
  unfold colsP
  split
  · decide
  · exact (hP.row 0 (by omega)).2.2.1
theorem deal_row {rows : List (List Int)} {owners : List Int} (h : checkP rows owners = 0) {secret : Int} {random s : List Int} (hn : random.length + 1 = colsP rows) (hs : s = secret :: random) {i : Nat} (hi : i < rows.length) : (rows.getD i []).length ≤ s.length := by
  have hP := check_ok h
  have h1 := (hP.row i hi).2.1
  rw [hs, List.length_cons, hn, colsP, if_neg (by omega), h1]
  exact Nat.le_refl _
set_option maxRecDepth 100000 in
set_option maxHeartbeats 8000000 in
theorem deal_w {A0 A1 A2 : Option Addr} {c0 c1 c2 : Nat} {rows : List (List Int)} {owners : List Int} {secret : Int} {random : List Int} {w : World} (h0 : Sl (Kd.slice 3 (Kd.int .i64)) w A0 c0 rows) (h1 : Sl (Kd.int .i64) w A1 c1 owners) (h2 : Sl (Kd.int .i64) w A2 c2 random) :
    Calls Try.prog 22 #[.agg #[.slice A0 rows.length c0, .slice A1 owners.length c1], .int .i64 secret, .slice A2 random.length c2] w fun e w' => ∃ v0_ v1_ : Value, e = .returned (.tuple #[v0_, v1_, .int .i64 (dealQ rows owners secret random).2.2]) ∧
      Kd.R k38 38 w' w.heap.size (fun k_ => (w.heap.size ≤ k_)) v0_ (dealQ rows owners secret random).1 ∧ Kd.R (Kd.int .i64) 3 w' w.heap.size (fun k_ => (w.heap.size ≤ k_)) v1_ (dealQ rows owners secret random).2.1 ∧ Below w.heap.size w w' := by
  have H_rows := Aside0.mk h0
  have H_own := Aside0.mk h1
  have H_rnd := Aside0.mk h2
  have HB := Aside0.mk (Below.refl w.heap.size w)
  clear h0 h1 h2
  obtain ⟨t, ht⟩ : ∃ t, t = checkP rows owners := ⟨_, rfl⟩
  have HK : Aside0 (∀ W, Sl (Kd.slice 3 (Kd.int .i64)) W A0 c0 rows → Sl (Kd.int .i64) W A1 c1 owners → Calls Try.prog 82 #[.agg #[.slice A0 rows.length c0, .slice A1 owners.length c1]] W fun e w' => e = .returned (.int .i64 t) ∧ Below W.heap.size W w') := ⟨fun W g0 g1 => by rw [ht]; exact program_Check.calls 66 A0 c0 rows A1 c1 owners _ W g0.rd g0.le g1.rd g1.le (check_math rows owners 66 (Nat.le_refl _))⟩
  rcases Decidable.em (t = 0) with h | h
  · skip
    have hd0 : checkP rows owners = 0 := ht.symm.trans h
    clear ht
    subst h
    cases hq1 : inQ secret with
    | false =>
      have HF : Aside0 (dealQ rows owners secret random = ([], [], 1)) := ⟨by unfold dealQ; rw [if_pos hd0, hq1]; rfl⟩
      have HS1 := Aside0.mk ((inQ_not secret).trans hq1); clear hq1 hd0
      go_enter Try.func22, Try.ntmps22
      go_wp2_with fail
      obtain ⟨w1, hw⟩ : ∃ W_, W_ = w.alloc (.cells #[.slice A0 rows.length c0, .slice A1 owners.length c1] 25) := ⟨_, rfl⟩
      rw [← hw]
      have hb : Below w.heap.size w w1 := by rw [hw]; exact below_alloc1 _ _
      have hz : w.heap.size = w.heap.size := rfl
      have hs : w1.heap.size = w.heap.size + 1 := by rw [hw, ← hz]; simp
      replace H_rows := Aside0.mk (H_rows.out.below hb)
      replace H_own := Aside0.mk (H_own.out.below hb)
      replace H_rnd := Aside0.mk (H_rnd.out.below hb)
      replace HB := Aside0.mk (below_then HB.out HB.out.size hb)
      have H_two0 := Aside0.mk (⟨by rw [hw, ← hz]; simp only [World.cell?]; rw [World.alloc_heap_new]; rfl, by rw [hs]; omega⟩ : w1.cell? ⟨w.heap.size, 0, none⟩ = some (.slice A0 rows.length c0) ∧ w.heap.size < w1.heap.size)
      have H_two1 := Aside0.mk (⟨by rw [hw, ← hz]; simp only [World.cell?]; rw [World.alloc_heap_new]; rfl, by rw [hs]; omega⟩ : w1.cell? ⟨w.heap.size, 1, none⟩ = some (.slice A1 owners.length c1) ∧ w.heap.size < w1.heap.size)
      clear hw hb hz
      have HZ := Aside0.mk hs; clear hs
      refine (HK.out _ H_rows.out H_own.out).mono ?_
      rintro e w2 ⟨rfl, hb⟩
      replace H_rows := Aside0.mk (H_rows.out.below hb)
      replace H_own := Aside0.mk (H_own.out.below hb)
      replace H_rnd := Aside0.mk (H_rnd.out.below hb)
      replace H_two0 := Aside0.mk (cell_on H_two0.out hb)
      replace H_two1 := Aside0.mk (cell_on H_two1.out hb)
      replace HB := Aside0.mk (below_then HB.out HB.out.size hb)
      clear hb
      go_wp2_with fail
      obtain ⟨w3, hw⟩ : ∃ W_, W_ = w2.alloc (.cells #[.int .i64 secret] 3) := ⟨_, rfl⟩
      rw [← hw]
      have hb : Below w2.heap.size w2 w3 := by rw [hw]; exact below_alloc1 _ _
      have hz : w2.heap.size = w2.heap.size := rfl
      have hs : w3.heap.size = w2.heap.size + 1 := by rw [hw, ← hz]; simp
      have hl : Sl (Kd.int .i64) w3 (some ⟨w2.heap.size, 0, none⟩) 1 [secret] := by rw [hw, ← hz]; exact Sl.ints w2 3 [secret] (by show 1 ≤ 1000000; decide)
      replace H_rows := Aside0.mk (H_rows.out.below hb)
      replace H_own := Aside0.mk (H_own.out.below hb)
      replace H_rnd := Aside0.mk (H_rnd.out.below hb)
      replace H_two0 := Aside0.mk (cell_on H_two0.out hb)
      replace H_two1 := Aside0.mk (cell_on H_two1.out hb)
      replace HB := Aside0.mk (below_then HB.out HB.out.size hb)
      have H_s1 := Aside0.mk hl; clear hl
      clear hw hb hz
      have HZ := Aside0.mk hs; clear hs
      have HQ := numbers_w H_s1.out
      rw [HS1.out] at HQ
      refine (HQ).mono ?_
      rintro e w4 ⟨rfl, hb⟩
      replace H_rows := Aside0.mk (H_rows.out.below hb)
      replace H_own := Aside0.mk (H_own.out.below hb)
      replace H_rnd := Aside0.mk (H_rnd.out.below hb)
      replace H_two0 := Aside0.mk (cell_on H_two0.out hb)
      replace H_two1 := Aside0.mk (cell_on H_two1.out hb)
      clear H_s1
      replace HB := Aside0.mk (below_then HB.out HB.out.size hb)
      clear hb
      clear HQ
      go_wp2
      go_ret3
      rw [HF.out]
      exact ⟨_, _, rfl, Kd.R_nil _ _ _ _ _, Kd.R_nil _ _ _ _ _, HB.out⟩
    | true =>
      have HS1 := Aside0.mk ((inQ_not secret).trans hq1)
      cases hq2 : random.any outQ with
      | true =>
        have HF : Aside0 (dealQ rows owners secret random = ([], [], 1)) := ⟨by unfold dealQ; rw [if_pos hd0, hq1, hq2]; rfl⟩
        have HS2 := Aside0.mk (congrArg not hq2); clear hq1 hq2 hd0
        go_enter Try.func22, Try.ntmps22
        go_wp2_with fail
        obtain ⟨w1, hw⟩ : ∃ W_, W_ = w.alloc (.cells #[.slice A0 rows.length c0, .slice A1 owners.length c1] 25) := ⟨_, rfl⟩
        rw [← hw]
        have hb : Below w.heap.size w w1 := by rw [hw]; exact below_alloc1 _ _
        have hz : w.heap.size = w.heap.size := rfl
        have hs : w1.heap.size = w.heap.size + 1 := by rw [hw, ← hz]; simp
        replace H_rows := Aside0.mk (H_rows.out.below hb)
        replace H_own := Aside0.mk (H_own.out.below hb)
        replace H_rnd := Aside0.mk (H_rnd.out.below hb)
        replace HB := Aside0.mk (below_then HB.out HB.out.size hb)
        have H_two0 := Aside0.mk (⟨by rw [hw, ← hz]; simp only [World.cell?]; rw [World.alloc_heap_new]; rfl, by rw [hs]; omega⟩ : w1.cell? ⟨w.heap.size, 0, none⟩ = some (.slice A0 rows.length c0) ∧ w.heap.size < w1.heap.size)
        have H_two1 := Aside0.mk (⟨by rw [hw, ← hz]; simp only [World.cell?]; rw [World.alloc_heap_new]; rfl, by rw [hs]; omega⟩ : w1.cell? ⟨w.heap.size, 1, none⟩ = some (.slice A1 owners.length c1) ∧ w.heap.size < w1.heap.size)
        clear hw hb hz
        have HZ := Aside0.mk hs; clear hs
        refine (HK.out _ H_rows.out H_own.out).mono ?_
        rintro e w2 ⟨rfl, hb⟩
        replace H_rows := Aside0.mk (H_rows.out.below hb)
        replace H_own := Aside0.mk (H_own.out.below hb)
        replace H_rnd := Aside0.mk (H_rnd.out.below hb)
        replace H_two0 := Aside0.mk (cell_on H_two0.out hb)
        replace H_two1 := Aside0.mk (cell_on H_two1.out hb)
        replace HB := Aside0.mk (below_then HB.out HB.out.size hb)
        clear hb
        go_wp2_with fail
        obtain ⟨w3, hw⟩ : ∃ W_, W_ = w2.alloc (.cells #[.int .i64 secret] 3) := ⟨_, rfl⟩
        rw [← hw]
        have hb : Below w2.heap.size w2 w3 := by rw [hw]; exact below_alloc1 _ _
        have hz : w2.heap.size = w2.heap.size := rfl
        have hs : w3.heap.size = w2.heap.size + 1 := by rw [hw, ← hz]; simp
        have hl : Sl (Kd.int .i64) w3 (some ⟨w2.heap.size, 0, none⟩) 1 [secret] := by rw [hw, ← hz]; exact Sl.ints w2 3 [secret] (by show 1 ≤ 1000000; decide)
        replace H_rows := Aside0.mk (H_rows.out.below hb)
        replace H_own := Aside0.mk (H_own.out.below hb)
        replace H_rnd := Aside0.mk (H_rnd.out.below hb)
        replace H_two0 := Aside0.mk (cell_on H_two0.out hb)
        replace H_two1 := Aside0.mk (cell_on H_two1.out hb)
        replace HB := Aside0.mk (below_then HB.out HB.out.size hb)
        have H_s1 := Aside0.mk hl; clear hl
        clear hw hb hz
        have HZ := Aside0.mk hs; clear hs
        have HQ := numbers_w H_s1.out
        rw [HS1.out] at HQ
        refine (HQ).mono ?_
        rintro e w4 ⟨rfl, hb⟩
        replace H_rows := Aside0.mk (H_rows.out.below hb)
        replace H_own := Aside0.mk (H_own.out.below hb)
        replace H_rnd := Aside0.mk (H_rnd.out.below hb)
        replace H_two0 := Aside0.mk (cell_on H_two0.out hb)
        replace H_two1 := Aside0.mk (cell_on H_two1.out hb)
        clear H_s1
        replace HB := Aside0.mk (below_then HB.out HB.out.size hb)
        clear hb
        clear HQ
        go_wp2_with fail
        have HQ := numbers_w H_rnd.out
        rw [HS2.out] at HQ
        refine (HQ).mono ?_
        rintro e w5 ⟨rfl, hb⟩
        replace H_rows := Aside0.mk (H_rows.out.below hb)
        replace H_own := Aside0.mk (H_own.out.below hb)
        replace H_rnd := Aside0.mk (H_rnd.out.below hb)
        replace H_two0 := Aside0.mk (cell_on H_two0.out hb)
        replace H_two1 := Aside0.mk (cell_on H_two1.out hb)
        replace HB := Aside0.mk (below_then HB.out HB.out.size hb)
        clear hb
        clear HQ
        go_wp2
        go_ret3
        rw [HF.out]
        exact ⟨_, _, rfl, Kd.R_nil _ _ _ _ _, Kd.R_nil _ _ _ _ _, HB.out⟩
      | false =>
        have HS2 := Aside0.mk (congrArg not hq2)
        have hcl := cols_le hd0
        by_cases hn : random.length + 1 = colsP rows
        · skip
          have HF : Aside0 (dealQ rows owners secret random = (sharesQ rows (secret :: random), (secret :: random).map commitQ, 0)) := ⟨by unfold dealQ; rw [if_pos hd0, hq1, hq2, decide_eq_true hn]; rfl⟩
          have HL := Aside0.mk (And.intro hcl hn)
          have HNC := Aside0.mk hn
          have HD0 := Aside0.mk hd0
          have HC := Aside0.mk (fun W (g0 : Sl (Kd.slice 3 (Kd.int .i64)) W A0 c0 rows) (g1 : Sl (Kd.int .i64) W A1 c1 owners) => dealing_columns.calls A0 c0 rows A1 c1 owners (colsP rows : Int) W g0.rd g0.le g1.rd g1.le cols_math)
          clear hq1 hq2 hd0 hcl hn
          go_enter Try.func22, Try.ntmps22
          go_wp2_with fail
          obtain ⟨w1, hw⟩ : ∃ W_, W_ = w.alloc (.cells #[.slice A0 rows.length c0, .slice A1 owners.length c1] 25) := ⟨_, rfl⟩
          rw [← hw]
          have hb : Below w.heap.size w w1 := by rw [hw]; exact below_alloc1 _ _
          have hz : w.heap.size = w.heap.size := rfl
          have hs : w1.heap.size = w.heap.size + 1 := by rw [hw, ← hz]; simp
          replace H_rows := Aside0.mk (H_rows.out.below hb)
          replace H_own := Aside0.mk (H_own.out.below hb)
          replace H_rnd := Aside0.mk (H_rnd.out.below hb)
          replace HB := Aside0.mk (below_then HB.out HB.out.size hb)
          have H_two0 := Aside0.mk (⟨by rw [hw, ← hz]; simp only [World.cell?]; rw [World.alloc_heap_new]; rfl, by rw [hs]; omega⟩ : w1.cell? ⟨w.heap.size, 0, none⟩ = some (.slice A0 rows.length c0) ∧ w.heap.size < w1.heap.size)
          have H_two1 := Aside0.mk (⟨by rw [hw, ← hz]; simp only [World.cell?]; rw [World.alloc_heap_new]; rfl, by rw [hs]; omega⟩ : w1.cell? ⟨w.heap.size, 1, none⟩ = some (.slice A1 owners.length c1) ∧ w.heap.size < w1.heap.size)
          clear hw hb hz
          have HZ := Aside0.mk hs; clear hs
          refine (HK.out _ H_rows.out H_own.out).mono ?_
          rintro e w2 ⟨rfl, hb⟩
          replace H_rows := Aside0.mk (H_rows.out.below hb)
          replace H_own := Aside0.mk (H_own.out.below hb)
          replace H_rnd := Aside0.mk (H_rnd.out.below hb)
          replace H_two0 := Aside0.mk (cell_on H_two0.out hb)
          replace H_two1 := Aside0.mk (cell_on H_two1.out hb)
          replace HB := Aside0.mk (below_then HB.out HB.out.size hb)
          clear hb
          go_wp2_with fail
          obtain ⟨w3, hw⟩ : ∃ W_, W_ = w2.alloc (.cells #[.int .i64 secret] 3) := ⟨_, rfl⟩
          rw [← hw]
          have hb : Below w2.heap.size w2 w3 := by rw [hw]; exact below_alloc1 _ _
          have hz : w2.heap.size = w2.heap.size := rfl
          have hs : w3.heap.size = w2.heap.size + 1 := by rw [hw, ← hz]; simp
          have hl : Sl (Kd.int .i64) w3 (some ⟨w2.heap.size, 0, none⟩) 1 [secret] := by rw [hw, ← hz]; exact Sl.ints w2 3 [secret] (by show 1 ≤ 1000000; decide)
          replace H_rows := Aside0.mk (H_rows.out.below hb)
          replace H_own := Aside0.mk (H_own.out.below hb)
          replace H_rnd := Aside0.mk (H_rnd.out.below hb)
          replace H_two0 := Aside0.mk (cell_on H_two0.out hb)
          replace H_two1 := Aside0.mk (cell_on H_two1.out hb)
          replace HB := Aside0.mk (below_then HB.out HB.out.size hb)
          have H_s1 := Aside0.mk hl; clear hl
          clear hw hb hz
          have HZ := Aside0.mk hs; clear hs
          have HQ := numbers_w H_s1.out
          rw [HS1.out] at HQ
          refine (HQ).mono ?_
          rintro e w4 ⟨rfl, hb⟩
          replace H_rows := Aside0.mk (H_rows.out.below hb)
          replace H_own := Aside0.mk (H_own.out.below hb)
          replace H_rnd := Aside0.mk (H_rnd.out.below hb)
          replace H_two0 := Aside0.mk (cell_on H_two0.out hb)
          replace H_two1 := Aside0.mk (cell_on H_two1.out hb)
          clear H_s1
          replace HB := Aside0.mk (below_then HB.out HB.out.size hb)
          clear hb
          clear HQ
          go_wp2_with fail
          have HQ := numbers_w H_rnd.out
          rw [HS2.out] at HQ
          refine (HQ).mono ?_
          rintro e w5 ⟨rfl, hb⟩
          replace H_rows := Aside0.mk (H_rows.out.below hb)
          replace H_own := Aside0.mk (H_own.out.below hb)
          replace H_rnd := Aside0.mk (H_rnd.out.below hb)
          replace H_two0 := Aside0.mk (cell_on H_two0.out hb)
          replace H_two1 := Aside0.mk (cell_on H_two1.out hb)
          replace HB := Aside0.mk (below_then HB.out HB.out.size hb)
          clear hb
          clear HQ
          have q1 : ((random.length : Int) != wrap64 ((colsP rows : Int) - 1)) = false := bne_eq_false_iff_eq.mpr (by have := HL.out; unfold wrap64; omega)
          have q2 : ((random.length : Int) == wrap64 ((colsP rows : Int) - 1)) = true := beq_iff_eq.mpr (by have := HL.out; unfold wrap64; omega)
          generalize colsP rows = n at HC HL q1 q2
          have x_two0 := H_two0.out.1
          have x_two1 := H_two1.out.1
          go_wp2_with fail
          clear x_two0 x_two1
          refine (HC.out _ H_rows.out H_own.out).mono ?_
          rintro e w6 ⟨rfl, hb⟩
          replace H_rows := Aside0.mk (H_rows.out.below hb)
          clear H_own
          replace H_rnd := Aside0.mk (H_rnd.out.below hb)
          replace H_two0 := Aside0.mk (cell_on H_two0.out hb)
          clear H_two1
          replace HB := Aside0.mk (below_then HB.out HB.out.size hb)
          clear hb
          clear HC
          go_wp2_with fail
          clear q1 q2
          obtain ⟨w7, hw⟩ : ∃ W_, W_ = w6.alloc (.cells #[.int .i64 secret] 3) := ⟨_, rfl⟩
          rw [← hw]
          have hb : Below w6.heap.size w6 w7 := by rw [hw]; exact below_alloc1 _ _
          have hz : w6.heap.size = w6.heap.size := rfl
          have hs : w7.heap.size = w6.heap.size + 1 := by rw [hw, ← hz]; simp
          have hl : Sl (Kd.int .i64) w7 (some ⟨w6.heap.size, 0, none⟩) 1 [secret] := by rw [hw, ← hz]; exact Sl.ints w6 3 [secret] (by show 1 ≤ 1000000; decide)
          replace H_rows := Aside0.mk (H_rows.out.below hb)
          replace H_rnd := Aside0.mk (H_rnd.out.below hb)
          replace H_two0 := Aside0.mk (cell_on H_two0.out hb)
          replace HB := Aside0.mk (below_then HB.out HB.out.size hb)
          have H_s1 := Aside0.mk hl; clear hl
          clear hw hb hz
          have HZ := Aside0.mk hs; clear hs
          obtain ⟨w8, hw⟩ : ∃ W_, W_ = w7.alloc (.cells #[.slice (some ⟨w6.heap.size, 0, none⟩) 1 1, .slice A2 random.length c2] 23) := ⟨_, rfl⟩
          rw [← hw]
          have hb : Below w7.heap.size w7 w8 := by rw [hw]; exact below_alloc1 _ _
          have hz : w7.heap.size = w6.heap.size + 1 := HZ.out
          have hs : w8.heap.size = w6.heap.size + 1 + 1 := by rw [hw, ← hz]; simp
          have hl : Sl (Kd.slice 3 (Kd.int .i64)) w8 (some ⟨w6.heap.size + 1, 0, none⟩) 2 [[secret], random] := by rw [hw, ← hz]; exact Sl.rows w7 23 3 [.slice (some ⟨w6.heap.size, 0, none⟩) 1 1, .slice A2 random.length c2] [[secret], random] (.cons (SlAt.mk_ H_s1.out) (.cons (SlAt.mk_ H_rnd.out) SlsAt.nil)) (by show 2 ≤ 1000000; decide)
          replace H_rows := Aside0.mk (H_rows.out.below hb)
          replace H_rnd := Aside0.mk (H_rnd.out.below hb)
          replace H_two0 := Aside0.mk (cell_on H_two0.out hb)
          replace H_s1 := Aside0.mk (H_s1.out.below hb)
          replace HB := Aside0.mk (below_then HB.out HB.out.size hb)
          have H_both := Aside0.mk hl; clear hl
          clear hw hb hz
          have HZ := Aside0.mk hs; clear hs
          refine (slices_Concat_int_int.calls _ _ [[secret], random] (secret :: random) _ H_both.out.rd H_both.out.le (by unfold slices_Concat_int_int.f; rw [if_pos (by have := HL.out; simp [sizesOf]; omega)]; simp)).mono ?_
          rintro e w9 ⟨v5, rfl, h5, hb⟩
          replace H_rows := Aside0.mk (H_rows.out.below hb)
          clear H_rnd
          replace H_two0 := Aside0.mk (cell_on H_two0.out hb)
          clear H_s1
          clear H_both
          replace HB := Aside0.mk (below_then HB.out HB.out.size hb)
          obtain ⟨As, cs, rfl, hs⟩ := Sl.ofR h5
          have H_s := Aside0.mk hs
          clear hb h5 hs
          obtain ⟨s, hsd⟩ : ∃ s, s = secret :: random := ⟨_, rfl⟩
          rw [← hsd] at H_s HF ⊢
          have HSL : Aside0 (s.length = n ∧ n ≤ 64) := ⟨by rw [hsd, List.length_cons]; have := HL.out; omega⟩
          have HROW : Aside0 (∀ i, i < rows.length → (rows.getD i []).length ≤ s.length) := ⟨fun i hi => deal_row HD0.out HNC.out hsd hi⟩
          clear hsd
          obtain ⟨Wa, hWa⟩ : ∃ W_, W_ = w9 := ⟨_, rfl⟩
          rw [← hWa] at H_rows H_s H_two0 HB ⊢
          clear hWa
          have x0 := H_two0.out.1
          go_wp2_with fail
          clear x0
          go_loopg [6, 47] rows.length (fun gk v6 v47 wr => ∃ i : Nat, i ≤ rows.length ∧ gk = rows.length - i ∧ v47 = .int .i64 (i : Int) ∧ Aside0 (Kd.R k38 38 wr Wa.heap.size (fun k_ => Wa.heap.size ≤ k_) v6 ((List.range i).map (shareQ rows s)) ∧ Below Wa.heap.size Wa wr))
          case atStart => exact ⟨0, Nat.zero_le _, rfl, rfl, ⟨Kd.R_nil _ _ _ _ _, Below.refl _ _⟩⟩
          case round =>
            obtain ⟨i, hi, rfl, rfl, HX⟩ := hrel
            by_cases hlt : i < rows.length
            · have d1 : decide ((i : Int) < (rows.length : Int)) = true := decide_eq_true (by omega)
              have d2 : decide (i < rows.length) = true := decide_eq_true hlt
              have d3 : (0 : Int) ≤ (i : Int) := by omega
              obtain ⟨ar, Ar, cr, e, z1, z2, z3⟩ := at_L1 H_rows.out.rd (i : Int) (by omega) (by omega)
              cases e
              rw [rd_L1_nat] at z1 z2 z3
              rw [Int.toNat_natCast] at z1
              have hbx := HX.out.2
              replace z1 := (hbx.cell (World.block_lt_of_cell? Wa _ z1)).trans z1
              replace z3 := Kd.C_below z3 hbx
              have hss := H_s.out.below hbx
              have hT := fun W (hb : Below wr.heap.size wr W) => dealing_times.calls Ar cr (rows.getD i []) As cs s (Sig.dot (rows.getD i []) s % 1073741789) W (Kd.C_below z3 hb) z2 (Kd.C_below hss.rd hb) hss.le (by unfold dealing_times.f; rw [if_pos (HROW.out i hlt)])
              have hsh : (List.range i).map (shareQ rows s) ++ [⟨(i : Int), Sig.dot (rows.getD i []) s % 1073741789⟩] = (List.range (i + 1)).map (shareQ rows s) := by rw [List.range_succ, List.map_append]; rfl
              have hlen : ((List.range i).map (shareQ rows s)).length = i := by simp
              have hrl : rows.length ≤ 64 := (check_ok HD0.out).few
              have HT := Aside0.mk hT; have HSH := Aside0.mk hsh; have HO := Aside0.mk HX.out.1; have HBX := Aside0.mk hbx; have HLEN := Aside0.mk hlen; have HRL := Aside0.mk hrl
              generalize Sig.dot (rows.getD i []) s % 1073741789 = y at HT HSH
              generalize (List.range i).map (shareQ rows s) = acc at HO HSH HLEN
              generalize (rows.getD i []).length = rl at z1 HT
              clear hT z2 z3 hss hbx hsh hlen HX hrl
              obtain ⟨vA, vc, rfl⟩ := Kd.R_slice HO.out
              go_wp2_with fail
              refine (HT.out _ (Below.refl _ _)).mono ?_
              rintro e wb ⟨rfl, hb⟩
              have HO2 := Aside0.mk (Kd.R_below HO.out hb)
              have HBB := Aside0.mk (below_then HBX.out HBX.out.size hb)
              clear hb z1 HT HO HBX
              go_wp2_with (at_builtin; refine Kd.R_append k38 (w0 := Wa) Wa.heap.size rfl (.tmp 52) (.tmp 58) 26 38 (.agg #[.int .i64 0, .int .i64 0]) 16 rfl (by kernel_rfl) (by kernel_rfl) rfl (by decide) (by decide) (.slice vA acc.length vc) acc ⟨(i : Int), y⟩ [.int .i64 (i : Int), .int .i64 y] (fun k_ => Wa.heap.size ≤ k_) (fun _ => False) rfl rfl (k38_mkM _ _ _ ⟨(i : Int), y⟩) (fun _ hk => hk.elim) (fun k hk => Nat.le_trans HBB.out.size hk) HO2.out HBB.out HBB.out.size (by have := HLEN.out; have := HRL.out; omega) ?_; intro v1 wc ho hbc hg hat; have HO3 := Aside0.mk ho; have HB3 := Aside0.mk hbc; clear ho hbc hg hat)
              go_roundg (rows.length - (i + 1))
              case measure => omega
              case rel => exact ⟨i + 1, by omega, rfl, by first | rfl | rw [wrap_succ (by have := HRL.out; omega)], ⟨by rw [← HSH.out]; exact HO3.out, HB3.out⟩⟩
            · obtain rfl : i = rows.length := by omega
              have d1 : decide ((rows.length : Int) < (rows.length : Int)) = false := decide_eq_false (by omega)
              have HO := Aside0.mk (show Kd.R k38 38 wr Wa.heap.size (fun k_ => Wa.heap.size ≤ k_) _ (sharesQ rows s) from HX.out.1)
              have H_s2 := Aside0.mk (H_s.out.below HX.out.2)
              have HB2 := Aside0.mk (below_then HB.out HB.out.size HX.out.2)
              have HGE := Aside0.mk (Nat.le_trans HB.out.size HX.out.2.size)
              have HGE0 := Aside0.mk HB.out.size
              clear H_s H_rows HB H_two0 HX HROW
              obtain ⟨vA, vc, rfl⟩ := Kd.R_slice HO.out
              generalize wr = Wb at HO H_s2 HB2 HGE HGE0 ⊢
              go_wp2_with fail
              go_loopg [6, 7, 63] s.length (fun gk v6 v7 v63 wq => v6 = .slice vA (sharesQ rows s).length vc ∧ ∃ j : Nat, j ≤ s.length ∧ gk = s.length - j ∧ v63 = .int .i64 (j : Int) ∧ Aside0 (Kd.R (Kd.int .i64) 3 wq Wb.heap.size (fun k_ => Wb.heap.size ≤ k_) v7 ((s.take j).map commitQ) ∧ Below Wb.heap.size Wb wq))
              case atStart => exact ⟨rfl, 0, Nat.zero_le _, rfl, rfl, ⟨Kd.R_nil _ _ _ _ _, Below.refl _ _⟩⟩
              case round =>
                obtain ⟨rfl, j, hj, rfl, rfl, HX⟩ := hrel
                by_cases hlt : j < s.length
                · have e1 : decide ((j : Int) < (s.length : Int)) = true := decide_eq_true (by omega)
                  have e2 : decide (j < s.length) = true := decide_eq_true hlt
                  have e3 : (0 : Int) ≤ (j : Int) := by omega
                  obtain ⟨as_, e, y1⟩ := Kd.at_int H_s2.out.rd (j : Int) (by omega) (by omega)
                  cases e
                  rw [rd_nat, Int.toNat_natCast] at y1
                  replace y1 := (HX.out.2.cell (World.block_lt_of_cell? _ _ y1)).trans y1
                  have htk : (s.take j).map commitQ ++ [commitQ (s.getD j 0)] = (s.take (j + 1)).map commitQ := by rw [List.take_succ_eq_append_getElem hlt, List.map_append, List.getD_eq_getElem?_getD, List.getElem?_eq_getElem hlt]; rfl
                  have hlen : ((s.take j).map commitQ).length = j := by rw [List.length_map, List.length_take]; omega
                  have HTK := Aside0.mk htk; have HQ := Aside0.mk HX.out.1; have HBX := Aside0.mk HX.out.2; have HLEN := Aside0.mk hlen
                  generalize s.getD j 0 = x at y1 HTK
                  generalize (s.take j).map commitQ = acc at HQ HTK HLEN
                  clear htk hlen HX
                  obtain ⟨vB, vd, rfl⟩ := Kd.R_slice HQ.out
                  go_wp2_with fail
                  refine (group_Pow.calls 4 x _ _ _ (pow_four x)).mono ?_
                  rintro e wb ⟨rfl, hb⟩
                  have HQ2 := Aside0.mk (Kd.R_below HQ.out hb)
                  have HBB := Aside0.mk (below_then HBX.out HBX.out.size hb)
                  clear hb y1 HQ HBX
                  generalize commitQ x = y at HTK ⊢
                  go_wp2_with (at_builtin; refine Kd.R_append (Kd.int .i64) (w0 := Wb) Wb.heap.size rfl (.tmp 75) (.tmp 77) 23 3 (.int .i64 0) 8 rfl (by kernel_rfl) (by kernel_rfl) rfl (by decide) (by decide) (.slice vB acc.length vd) acc y [.int .i64 y] (fun k_ => Wb.heap.size ≤ k_) (fun _ => False) rfl rfl rfl (fun _ hk => hk.elim) (fun k hk => Nat.le_trans HBB.out.size hk) HQ2.out HBB.out HBB.out.size (by have := HLEN.out; have := HSL.out; omega) ?_; intro v1 wc ho hbc hg hat; have HQ3 := Aside0.mk ho; have HB3 := Aside0.mk hbc; clear ho hbc hg hat)
                  go_roundg (s.length - (j + 1))
                  case measure => omega
                  case rel => exact ⟨rfl, j + 1, by omega, rfl, by first | rfl | rw [wrap_succ (by have := HSL.out; omega)], ⟨by rw [← HTK.out]; exact HQ3.out, HB3.out⟩⟩
                · obtain rfl : j = s.length := by omega
                  have e1 : decide ((s.length : Int) < (s.length : Int)) = false := decide_eq_false (by omega)
                  have hx := HX.out.1
                  rw [List.take_length] at hx
                  have HQ := Aside0.mk hx; have HBX := Aside0.mk HX.out.2; clear hx HX
                  obtain ⟨vB, vd, rfl⟩ := Kd.R_slice HQ.out
                  go_wp2
                  go_ret3
                  rw [HF.out]
                  exact ⟨_, _, rfl, Kd.R_mono (Kd.R_lower (Kd.R_below HO.out HBX.out) HGE0.out) (fun k hk => Nat.le_trans HGE0.out hk), Kd.R_mono (Kd.R_lower HQ.out HGE.out) (fun k hk => Nat.le_trans HGE.out hk), below_then HB2.out HB2.out.size HBX.out⟩
        · skip
          have HF : Aside0 (dealQ rows owners secret random = ([], [], 1)) := ⟨by unfold dealQ; rw [if_pos hd0, hq1, hq2, decide_eq_false hn]; rfl⟩
          have HC := Aside0.mk (fun W (g0 : Sl (Kd.slice 3 (Kd.int .i64)) W A0 c0 rows) (g1 : Sl (Kd.int .i64) W A1 c1 owners) => dealing_columns.calls A0 c0 rows A1 c1 owners (colsP rows : Int) W g0.rd g0.le g1.rd g1.le cols_math)
          have HL := Aside0.mk (And.intro hcl hn)
          clear hq1 hq2 hd0 hcl hn
          go_enter Try.func22, Try.ntmps22
          go_wp2_with fail
          obtain ⟨w1, hw⟩ : ∃ W_, W_ = w.alloc (.cells #[.slice A0 rows.length c0, .slice A1 owners.length c1] 25) := ⟨_, rfl⟩
          rw [← hw]
          have hb : Below w.heap.size w w1 := by rw [hw]; exact below_alloc1 _ _
          have hz : w.heap.size = w.heap.size := rfl
          have hs : w1.heap.size = w.heap.size + 1 := by rw [hw, ← hz]; simp
          replace H_rows := Aside0.mk (H_rows.out.below hb)
          replace H_own := Aside0.mk (H_own.out.below hb)
          replace H_rnd := Aside0.mk (H_rnd.out.below hb)
          replace HB := Aside0.mk (below_then HB.out HB.out.size hb)
          have H_two0 := Aside0.mk (⟨by rw [hw, ← hz]; simp only [World.cell?]; rw [World.alloc_heap_new]; rfl, by rw [hs]; omega⟩ : w1.cell? ⟨w.heap.size, 0, none⟩ = some (.slice A0 rows.length c0) ∧ w.heap.size < w1.heap.size)
          have H_two1 := Aside0.mk (⟨by rw [hw, ← hz]; simp only [World.cell?]; rw [World.alloc_heap_new]; rfl, by rw [hs]; omega⟩ : w1.cell? ⟨w.heap.size, 1, none⟩ = some (.slice A1 owners.length c1) ∧ w.heap.size < w1.heap.size)
          clear hw hb hz
          have HZ := Aside0.mk hs; clear hs
          refine (HK.out _ H_rows.out H_own.out).mono ?_
          rintro e w2 ⟨rfl, hb⟩
          replace H_rows := Aside0.mk (H_rows.out.below hb)
          replace H_own := Aside0.mk (H_own.out.below hb)
          replace H_rnd := Aside0.mk (H_rnd.out.below hb)
          replace H_two0 := Aside0.mk (cell_on H_two0.out hb)
          replace H_two1 := Aside0.mk (cell_on H_two1.out hb)
          replace HB := Aside0.mk (below_then HB.out HB.out.size hb)
          clear hb
          go_wp2_with fail
          obtain ⟨w3, hw⟩ : ∃ W_, W_ = w2.alloc (.cells #[.int .i64 secret] 3) := ⟨_, rfl⟩
          rw [← hw]
          have hb : Below w2.heap.size w2 w3 := by rw [hw]; exact below_alloc1 _ _
          have hz : w2.heap.size = w2.heap.size := rfl
          have hs : w3.heap.size = w2.heap.size + 1 := by rw [hw, ← hz]; simp
          have hl : Sl (Kd.int .i64) w3 (some ⟨w2.heap.size, 0, none⟩) 1 [secret] := by rw [hw, ← hz]; exact Sl.ints w2 3 [secret] (by show 1 ≤ 1000000; decide)
          replace H_rows := Aside0.mk (H_rows.out.below hb)
          replace H_own := Aside0.mk (H_own.out.below hb)
          replace H_rnd := Aside0.mk (H_rnd.out.below hb)
          replace H_two0 := Aside0.mk (cell_on H_two0.out hb)
          replace H_two1 := Aside0.mk (cell_on H_two1.out hb)
          replace HB := Aside0.mk (below_then HB.out HB.out.size hb)
          have H_s1 := Aside0.mk hl; clear hl
          clear hw hb hz
          have HZ := Aside0.mk hs; clear hs
          have HQ := numbers_w H_s1.out
          rw [HS1.out] at HQ
          refine (HQ).mono ?_
          rintro e w4 ⟨rfl, hb⟩
          replace H_rows := Aside0.mk (H_rows.out.below hb)
          replace H_own := Aside0.mk (H_own.out.below hb)
          replace H_rnd := Aside0.mk (H_rnd.out.below hb)
          replace H_two0 := Aside0.mk (cell_on H_two0.out hb)
          replace H_two1 := Aside0.mk (cell_on H_two1.out hb)
          clear H_s1
          replace HB := Aside0.mk (below_then HB.out HB.out.size hb)
          clear hb
          clear HQ
          go_wp2_with fail
          have HQ := numbers_w H_rnd.out
          rw [HS2.out] at HQ
          refine (HQ).mono ?_
          rintro e w5 ⟨rfl, hb⟩
          replace H_rows := Aside0.mk (H_rows.out.below hb)
          replace H_own := Aside0.mk (H_own.out.below hb)
          replace H_rnd := Aside0.mk (H_rnd.out.below hb)
          replace H_two0 := Aside0.mk (cell_on H_two0.out hb)
          replace H_two1 := Aside0.mk (cell_on H_two1.out hb)
          replace HB := Aside0.mk (below_then HB.out HB.out.size hb)
          clear hb
          clear HQ
          have q1 : ((random.length : Int) != wrap64 ((colsP rows : Int) - 1)) = true := bne_iff_ne.mpr (by have := HL.out; unfold wrap64; omega)
          have q2 : ((random.length : Int) == wrap64 ((colsP rows : Int) - 1)) = false := beq_eq_false_iff_ne.mpr (by have := HL.out; unfold wrap64; omega)
          generalize colsP rows = n at HC HL q1 q2
          have x_two0 := H_two0.out.1
          have x_two1 := H_two1.out.1
          go_wp2_with fail
          clear x_two0 x_two1
          refine (HC.out _ H_rows.out H_own.out).mono ?_
          rintro e w6 ⟨rfl, hb⟩
          replace H_rows := Aside0.mk (H_rows.out.below hb)
          replace H_own := Aside0.mk (H_own.out.below hb)
          replace H_rnd := Aside0.mk (H_rnd.out.below hb)
          replace H_two0 := Aside0.mk (cell_on H_two0.out hb)
          replace H_two1 := Aside0.mk (cell_on H_two1.out hb)
          replace HB := Aside0.mk (below_then HB.out HB.out.size hb)
          clear hb
          go_wp2
          go_ret3
          rw [HF.out]
          exact ⟨_, _, rfl, Kd.R_nil _ _ _ _ _, Kd.R_nil _ _ _ _ _, HB.out⟩
  · skip
    have HF : Aside0 (dealQ rows owners secret random = ([], [], t)) := ⟨by unfold dealQ; rw [← ht, if_neg h]⟩
    clear ht
    have q1 : (t == 0) = false := beq_eq_false_iff_ne.mpr h
    have q2 : (t != 0) = true := bne_iff_ne.mpr h
    go_enter Try.func22, Try.ntmps22
    go_wp2_with fail
    obtain ⟨w1, hw⟩ : ∃ W_, W_ = w.alloc (.cells #[.slice A0 rows.length c0, .slice A1 owners.length c1] 25) := ⟨_, rfl⟩
    rw [← hw]
    have hb : Below w.heap.size w w1 := by rw [hw]; exact below_alloc1 _ _
    have hz : w.heap.size = w.heap.size := rfl
    have hs : w1.heap.size = w.heap.size + 1 := by rw [hw, ← hz]; simp
    replace H_rows := Aside0.mk (H_rows.out.below hb)
    replace H_own := Aside0.mk (H_own.out.below hb)
    replace H_rnd := Aside0.mk (H_rnd.out.below hb)
    replace HB := Aside0.mk (below_then HB.out HB.out.size hb)
    have H_two0 := Aside0.mk (⟨by rw [hw, ← hz]; simp only [World.cell?]; rw [World.alloc_heap_new]; rfl, by rw [hs]; omega⟩ : w1.cell? ⟨w.heap.size, 0, none⟩ = some (.slice A0 rows.length c0) ∧ w.heap.size < w1.heap.size)
    have H_two1 := Aside0.mk (⟨by rw [hw, ← hz]; simp only [World.cell?]; rw [World.alloc_heap_new]; rfl, by rw [hs]; omega⟩ : w1.cell? ⟨w.heap.size, 1, none⟩ = some (.slice A1 owners.length c1) ∧ w.heap.size < w1.heap.size)
    clear hw hb hz
    have HZ := Aside0.mk hs; clear hs
    refine (HK.out _ H_rows.out H_own.out).mono ?_
    rintro e w2 ⟨rfl, hb⟩
    replace H_rows := Aside0.mk (H_rows.out.below hb)
    replace H_own := Aside0.mk (H_own.out.below hb)
    replace H_rnd := Aside0.mk (H_rnd.out.below hb)
    replace H_two0 := Aside0.mk (cell_on H_two0.out hb)
    replace H_two1 := Aside0.mk (cell_on H_two1.out hb)
    replace HB := Aside0.mk (below_then HB.out HB.out.size hb)
    clear hb
    go_wp2
    go_ret3
    rw [HF.out]
    exact ⟨_, _, rfl, Kd.R_nil _ _ _ _ _, Kd.R_nil _ _ _ _ _, HB.out⟩
end Go.Proofs.Ytdbamhckgaoibaa.P
namespace Go.Proofs.Ytdbamhckgaoibaa.P
open Go.RowKit Go.Proofs.YtdbamhckgaoibaaW.PrintWords Go.Proofs.YtdbamhckgaoibaaW.PrintLast Go.Proofs.YtdbamhckgaoibaaW.PrintMore
theorem deal_good {rows : List (List Int)} {owners : List Int} {secret : Int} {random : List Int} (hc : checkP rows owners = 0) (hs : inQ secret = true) (hr : random.any outQ = false) (hl : random.length + 1 = colsP rows) :
    dealQ rows owners secret random = (sharesQ rows (secret :: random), (secret :: random).map commitQ, 0) := by
  unfold dealQ
  rw [if_pos hc, hs, hr, decide_eq_true hl]; rfl
theorem deal_odd {rows : List (List Int)} {owners : List Int} {secret : Int} {random : List Int} (hc : checkP rows owners = 0) (hs : inQ secret = false) : dealQ rows owners secret random = ([], [], 1) := by
  unfold dealQ
  rw [if_pos hc, hs]; rfl
theorem noEl_commit (s : List Int) : (s.map commitQ).any noEl = false := by
  rw [List.any_eq_false]
  intro x hx
  obtain ⟨n, _, rfl⟩ := List.mem_map.1 hx
  unfold noEl
  rw [commitQ_el]; decide
theorem check_dealt {rows : List (List Int)} {owners : List Int} {s : List Int} (hc : checkP rows owners = 0) (hl : s.length = colsP rows) : checkD rows owners (s.map commitQ) = 0 := by
  unfold checkD
  rw [if_pos hc, if_pos ⟨by rw [List.length_map, hl], noEl_commit s⟩]
theorem pub_dealt : ∀ (s row : List Int) (y : Int), pubFrom (commitQ y) (s.map commitQ) row = commitQ (y + Sig.dot row s)
  | [], row, y => by
    rw [List.map_nil, Sig.dot_nil_r, Int.add_zero]
    cases row <;> rfl
  | x :: s, [], y => by rw [Sig.dot_nil_l, Int.add_zero]; rfl
  | x :: s, e :: row, y => by
    rw [List.map_cons, pubFrom, commitQ_pow, commitQ_add, pub_dealt s row, Sig.dot]
    congr 1
    rw [Int.mul_comm x e]; omega
theorem public_dealt {rows : List (List Int)} {owners : List Int} {s : List Int} (hc : checkP rows owners = 0) (hl : s.length = colsP rows) {i : Nat} (hi : i < rows.length) :
    publicD rows owners (s.map commitQ) (i : Int) = (commitQ (Sig.dot (rows.getD i []) s), 0) := by
  unfold publicD
  rw [if_pos (check_dealt hc hl), if_pos ⟨by omega, by omega⟩, Int.toNat_natCast, ← commitQ_zero, pub_dealt, Int.zero_add]
theorem fits_dealt {rows : List (List Int)} {owners : List Int} {s : List Int} (hc : checkP rows owners = 0) (hl : s.length = colsP rows) {i : Nat} (hi : i < rows.length) {v : Int} (hv : inQ v = true) :
    fitsD rows owners (s.map commitQ) (i : Int) v = (commitQ v == commitQ (Sig.dot (rows.getD i []) s), 0) := by
  have hr : rightS rows.length ⟨(i : Int), v⟩ = true := by
    unfold rightS
    simp only [hv, Bool.and_true]
    rw [decide_eq_true (by omega), decide_eq_true (by omega)]; rfl
  unfold fitsD
  rw [if_pos (check_dealt hc hl), hr, public_dealt hc hl hi]; rfl
end Go.Proofs.Ytdbamhckgaoibaa.P
namespace Go.Proofs.Ytdbamhckgaoibaa.P
open Go.RowKit Go.Proofs.YtdbamhckgaoibaaW.PrintWords Go.Proofs.YtdbamhckgaoibaaW.PrintLast Go.Proofs.YtdbamhckgaoibaaW.PrintMore
theorem finv_one : Sig.finv 1 = 1 := by unfold Sig.finv; rw [Int.one_pow]; rfl
def pivotG (g : Int → Int) (t : List (List Int)) (r k c : Nat) : List (List Int) :=
  let own := Sig.times (t.getD k []) (g (Sig.ent t k c))
  (((t.set k (t.getD r [])).map fun row => Sig.less row own (row.getD c 0))).set r own
def stepG (g : Int → Int) (st : List (List Int) × List Nat) (c : Nat) : List (List Int) × List Nat :=
  if Sig.find st.1 c st.2.length < st.1.length then (pivotG g st.1 st.2.length (Sig.find st.1 c st.2.length) c, st.2 ++ [c]) else st
def reduceG (g : Int → Int) (t : List (List Int)) (many : Nat) : List (List Int) × List Nat := (List.range many).foldl (stepG g) (t, [])
def combineG (g : Int → Int) (rows : List (List Int)) (target : List Int) : Option (List Int) :=
  if Sig.fits (reduceG g (Sig.turned rows target) rows.length).1 (reduceG g (Sig.turned rows target) rows.length).2.length rows.length then
    some (Sig.combY (reduceG g (Sig.turned rows target) rows.length).1 (reduceG g (Sig.turned rows target) rows.length).2 rows.length) else none
def inv1 (x : Int) : Int := if x = 1 then 1 else Sig.finv x
theorem inv1_eq : inv1 = Sig.finv := funext fun x => by
  unfold inv1
  split
  · rename_i h; subst h; exact finv_one.symm
  · rfl
theorem combine_inv1 (rows : List (List Int)) (target : List Int) : Sig.combine rows target = combineG inv1 rows target := by rw [inv1_eq]; rfl
def sameS : List S38 → List S38 → Bool
  | [], [] => true
  | a :: l, b :: m => a.f0 == b.f0 && a.f1 == b.f1 && sameS l m
  | [], _ :: _ => false
  | _ :: _, [] => false
theorem sameS_iff : ∀ (l m : List S38), sameS l m = true ↔ l = m
  | [], [] => ⟨fun _ => rfl, fun _ => rfl⟩
  | [], _ :: _ => ⟨fun h => (by cases h), fun h => (by cases h)⟩
  | _ :: _, [] => ⟨fun h => (by cases h), fun h => (by cases h)⟩
  | ⟨a0, a1⟩ :: l, ⟨b0, b1⟩ :: m => by
    simp only [sameS, Bool.and_eq_true, beq_iff_eq, List.cons.injEq, S38.mk.injEq, sameS_iff l m]
theorem sameS_length : ∀ (l m : List S38), l.length ≠ m.length → sameS l m = false := fun l m h => by
  cases e : sameS l m with
  | false => rfl
  | true => exact absurd (congrArg List.length ((sameS_iff l m).1 e)) h
theorem rdT_nat (l : List S38) (i : Nat) (h : i < l.length) : rd_T38 l (i : Int) = l[i] := by
  unfold rd_T38; rw [Int.toNat_natCast, List.getD_eq_getElem?_getD, List.getElem?_eq_getElem h]; rfl
theorem same_l0 (l m : List S38) (hl : l.length < 1000000) (he : l.length = m.length) (k : Nat) : ∀ d j, l.length - j = d → j ≤ l.length → signatoryref34_Same.l0 (k + d + 1) l m (j : Int) = some (sameS (l.drop j) (m.drop j)) := by
  intro d
  induction d with
  | zero =>
    intro j hd hj
    obtain rfl : j = l.length := by omega
    rw [signatoryref34_Same.l0, if_neg (by omega), List.drop_length, he, List.drop_length]; rfl
  | succ d ih =>
    intro j hd hj
    have h1 : j < l.length := by omega
    have h2 : j < m.length := by omega
    rw [signatoryref34_Same.l0, if_pos (by omega), if_pos (by omega), if_pos (by omega), rdT_nat l j h1, rdT_nat m j h2, List.drop_eq_getElem_cons h1, List.drop_eq_getElem_cons h2, sameS]
    cases e0 : (l[j].f0 == m[j].f0) with
    | false => simp
    | true =>
      cases e1 : (l[j].f1 == m[j].f1) with
      | false => simp
      | true =>
        rw [if_neg (by decide), wrap_succ (by omega), ← Nat.add_assoc, ih (j + 1) (by omega) (by omega)]; rfl
theorem same_math (l m : List S38) (hl : l.length < 1000000) (k : Nat) (hk : l.length < k) : signatoryref34_Same.f k l m = some (sameS l m) := by
  unfold signatoryref34_Same.f
  by_cases h : l.length = m.length
  · rw [if_pos (by omega)]
    obtain ⟨k, rfl⟩ : ∃ k', k = k' + l.length + 1 := ⟨k - l.length - 1, by omega⟩
    exact same_l0 l m hl h k l.length 0 (by omega) (by omega)
  · rw [if_neg (by omega), sameS_length l m h]
end Go.Proofs.Ytdbamhckgaoibaa.P
