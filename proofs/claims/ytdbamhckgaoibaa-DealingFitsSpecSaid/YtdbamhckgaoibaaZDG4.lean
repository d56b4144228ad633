/- A part of the proof of DealingFitsSpec: dealing.check, right, Public and Fits in plain words.; The calls of signatoryref23.Check, signatoryref23.Columns, signatoryref34.Columns, signatoryref34.Small, signatoryref34.SameInts, signatoryref34.Same, signatorylaw34.one, signatorylaw34.random come to what their functions in Lean say.; The reference's Check says what program.Check says.; The numbers that the statements of chapter 34 draw, in plain words.; slices.Grow of nothing, slices.Concat. -/
import Derived.Test.YtdbamhckgaoibaaZDG3
namespace Go.Proofs.Ytdbamhckgaoibaa.P
open Go.RowKit Go.Proofs.YtdbamhckgaoibaaW.PrintWords Go.Proofs.YtdbamhckgaoibaaW.PrintLast Go.Proofs.YtdbamhckgaoibaaW.PrintMore
set_option linter.unusedVariables false
theorem inQ_not (x : Int) : (!([x] : List Int).any outQ) = inQ x := by
  rw [Bool.eq_iff_iff]
  simp [outQ, inQ]
theorem ret_i {a b : Int} (h : b = a) : Ending.returned (.int .i64 a) = .returned (.int .i64 b) := by rw [h]
theorem ret_ii {a b : Int} {p : Int × Int} (h : p = (a, b)) : Ending.returned (.tuple #[.int .i64 a, .int .i64 b]) = .returned (.tuple #[.int .i64 p.1, .int .i64 p.2]) := by rw [h]
theorem ret_bi {a : Bool} {b : Int} {p : Bool × Int} (h : p = (a, b)) : Ending.returned (.tuple #[.bool a, .int .i64 b]) = .returned (.tuple #[.bool p.1, .int .i64 p.2]) := by rw [h]
theorem ret_b {a b : Bool} (h : b = a) : Ending.returned (.bool a) = .returned (.bool b) := by rw [h]
def checkD (rows : List (List Int)) (owners cm : List Int) : Int := if checkP rows owners = 0 then (if cm.length = colsP rows ∧ cm.any noEl = false then 0 else 340) else checkP rows owners
set_option maxHeartbeats 1000000 in
theorem dcheck_w {A0 A1 A2 : Option Addr} {c0 c1 c2 : Nat} {rows : List (List Int)} {owners : List Int} {cm : List Int} {w : World} (h0 : Sl (Kd.slice 3 (Kd.int .i64)) w A0 c0 rows) (h1 : Sl (Kd.int .i64) w A1 c1 owners) (h2 : Sl (Kd.int .i64) w A2 c2 cm) :
    Calls Try.prog 100 #[.agg #[.slice A0 rows.length c0, .slice A1 owners.length c1], .slice A2 cm.length c2] w fun e w' => e = .returned (.int .i64 (checkD rows owners cm)) ∧ Below w.heap.size w w' := by
  have H_rows := Aside0.mk h0
  have H_own := Aside0.mk h1
  have H_cm := Aside0.mk h2
  have HB := Aside0.mk (Below.refl w.heap.size w)
  clear h0 h1 h2
  obtain ⟨t, ht⟩ : ∃ t, t = checkP rows owners := ⟨_, rfl⟩
  have HD : Aside0 (checkD rows owners cm = if t = 0 then (if cm.length = colsP rows ∧ cm.any noEl = false then 0 else 340) else t) := ⟨by rw [ht]; rfl⟩
  have HK : Aside0 (∀ W, Sl (Kd.slice 3 (Kd.int .i64)) W A0 c0 rows → Sl (Kd.int .i64) W A1 c1 owners → Calls Try.prog 82 #[.agg #[.slice A0 rows.length c0, .slice A1 owners.length c1]] W fun e w' => e = .returned (.int .i64 t) ∧ Below W.heap.size W w') := ⟨fun W g0 g1 => by rw [ht]; exact program_Check.calls 66 A0 c0 rows A1 c1 owners _ W g0.rd g0.le g1.rd g1.le (check_math rows owners 66 (Nat.le_refl _))⟩
  clear ht
  rcases Decidable.em (t = 0) with h | h
  · skip
    subst h
    go_enter Try.func100, Try.ntmps100
    go_wp2_with fail
    obtain ⟨w1, hw⟩ : ∃ W_, W_ = w.alloc (.cells #[.slice A0 rows.length c0, .slice A1 owners.length c1] 25) := ⟨_, rfl⟩
    rw [← hw]
    have hb : Below w.heap.size w w1 := by rw [hw]; exact below_alloc1 _ _
    have hz : w.heap.size = w.heap.size := rfl
    have hs : w1.heap.size = w.heap.size + 1 := by rw [hw, ← hz]; simp
    replace H_rows := Aside0.mk (H_rows.out.below hb)
    replace H_own := Aside0.mk (H_own.out.below hb)
    replace H_cm := Aside0.mk (H_cm.out.below hb)
    replace HB := Aside0.mk (below_then HB.out HB.out.size hb)
    have H_two0 := Aside0.mk (⟨by rw [hw, ← hz]; simp only [World.cell?]; rw [World.alloc_heap_new]; rfl, by rw [hs]; omega⟩ : w1.cell? ⟨w.heap.size, 0, none⟩ = some (.slice A0 rows.length c0) ∧ w.heap.size < w1.heap.size)
    have H_two1 := Aside0.mk (⟨by rw [hw, ← hz]; simp only [World.cell?]; rw [World.alloc_heap_new]; rfl, by rw [hs]; omega⟩ : w1.cell? ⟨w.heap.size, 1, none⟩ = some (.slice A1 owners.length c1) ∧ w.heap.size < w1.heap.size)
    clear hw hb hz
    have HZ := Aside0.mk hs; clear hs
    refine (HK.out _ H_rows.out H_own.out).mono ?_
    rintro e w2 ⟨rfl, hb⟩
    replace H_rows := Aside0.mk (H_rows.out.below hb)
    replace H_own := Aside0.mk (H_own.out.below hb)
    replace H_cm := Aside0.mk (H_cm.out.below hb)
    replace H_two0 := Aside0.mk (cell_on H_two0.out hb)
    replace H_two1 := Aside0.mk (cell_on H_two1.out hb)
    replace HB := Aside0.mk (below_then HB.out HB.out.size hb)
    clear hb
    have HC := Aside0.mk (fun W (g0 : Sl (Kd.slice 3 (Kd.int .i64)) W A0 c0 rows) (g1 : Sl (Kd.int .i64) W A1 c1 owners) => dealing_columns.calls A0 c0 rows A1 c1 owners (colsP rows : Int) W g0.rd g0.le g1.rd g1.le cols_math)
    generalize colsP rows = n at HC HD
    by_cases hn : cm.length = n
    · skip
      have q1 : ((cm.length : Int) == (n : Int)) = true := beq_iff_eq.mpr (by omega)
      have q2 : ((cm.length : Int) != (n : Int)) = false := bne_eq_false_iff_eq.mpr (by omega)
      have HN := Aside0.mk hn; clear hn
      have x_two0 := H_two0.out.1
      have x_two1 := H_two1.out.1
      go_wp2_with fail
      clear x_two0 x_two1
      refine (HC.out _ H_rows.out H_own.out).mono ?_
      rintro e w3 ⟨rfl, hb⟩
      replace H_rows := Aside0.mk (H_rows.out.below hb)
      replace H_own := Aside0.mk (H_own.out.below hb)
      replace H_cm := Aside0.mk (H_cm.out.below hb)
      replace H_two0 := Aside0.mk (cell_on H_two0.out hb)
      replace H_two1 := Aside0.mk (cell_on H_two1.out hb)
      replace HB := Aside0.mk (below_then HB.out HB.out.size hb)
      clear hb
      have HE := Aside0.mk (contains_noEl.calls A2 c2 cm (cm.any noEl) w3 H_cm.out.rd H_cm.out.le rfl)
      generalize cm.any noEl = b at HE HD
      go_wp2_with fail
      refine HE.out.mono ?_
      rintro e w9 ⟨rfl, hd⟩
      have HB := Aside0.mk (below_then HB.out HB.out.size hd.below)
      clear hd HE
      cases b with
      | true => go_wp2; go_ret; exact ⟨ret_i (by have h_ := HD.out; simp [HN.out] at h_; exact h_), HB.out⟩
      | false => go_wp2; go_ret; exact ⟨ret_i (by have h_ := HD.out; simp [HN.out] at h_; exact h_), HB.out⟩
    · skip
      have q1 : ((cm.length : Int) == (n : Int)) = false := beq_eq_false_iff_ne.mpr (by omega)
      have q2 : ((cm.length : Int) != (n : Int)) = true := bne_iff_ne.mpr (by omega)
      have HN := Aside0.mk hn
      have x_two0 := H_two0.out.1
      have x_two1 := H_two1.out.1
      go_wp2_with fail
      clear x_two0 x_two1
      refine (HC.out _ H_rows.out H_own.out).mono ?_
      rintro e w3 ⟨rfl, hb⟩
      replace H_rows := Aside0.mk (H_rows.out.below hb)
      replace H_own := Aside0.mk (H_own.out.below hb)
      replace H_cm := Aside0.mk (H_cm.out.below hb)
      replace H_two0 := Aside0.mk (cell_on H_two0.out hb)
      replace H_two1 := Aside0.mk (cell_on H_two1.out hb)
      replace HB := Aside0.mk (below_then HB.out HB.out.size hb)
      clear hb
      go_wp2
      go_ret
      exact ⟨ret_i (by have h_ := HD.out; simp [HN.out] at h_; exact h_), HB.out⟩
  · skip
    have q1 : (t == 0) = false := beq_eq_false_iff_ne.mpr h
    have q2 : (t != 0) = true := bne_iff_ne.mpr h
    have HN := Aside0.mk h
    go_enter Try.func100, Try.ntmps100
    go_wp2_with fail
    obtain ⟨w1, hw⟩ : ∃ W_, W_ = w.alloc (.cells #[.slice A0 rows.length c0, .slice A1 owners.length c1] 25) := ⟨_, rfl⟩
    rw [← hw]
    have hb : Below w.heap.size w w1 := by rw [hw]; exact below_alloc1 _ _
    have hz : w.heap.size = w.heap.size := rfl
    have hs : w1.heap.size = w.heap.size + 1 := by rw [hw, ← hz]; simp
    replace H_rows := Aside0.mk (H_rows.out.below hb)
    replace H_own := Aside0.mk (H_own.out.below hb)
    replace H_cm := Aside0.mk (H_cm.out.below hb)
    replace HB := Aside0.mk (below_then HB.out HB.out.size hb)
    have H_two0 := Aside0.mk (⟨by rw [hw, ← hz]; simp only [World.cell?]; rw [World.alloc_heap_new]; rfl, by rw [hs]; omega⟩ : w1.cell? ⟨w.heap.size, 0, none⟩ = some (.slice A0 rows.length c0) ∧ w.heap.size < w1.heap.size)
    have H_two1 := Aside0.mk (⟨by rw [hw, ← hz]; simp only [World.cell?]; rw [World.alloc_heap_new]; rfl, by rw [hs]; omega⟩ : w1.cell? ⟨w.heap.size, 1, none⟩ = some (.slice A1 owners.length c1) ∧ w.heap.size < w1.heap.size)
    clear hw hb hz
    have HZ := Aside0.mk hs; clear hs
    refine (HK.out _ H_rows.out H_own.out).mono ?_
    rintro e w2 ⟨rfl, hb⟩
    replace H_rows := Aside0.mk (H_rows.out.below hb)
    replace H_own := Aside0.mk (H_own.out.below hb)
    replace H_cm := Aside0.mk (H_cm.out.below hb)
    replace H_two0 := Aside0.mk (cell_on H_two0.out hb)
    replace H_two1 := Aside0.mk (cell_on H_two1.out hb)
    replace HB := Aside0.mk (below_then HB.out HB.out.size hb)
    clear hb
    go_wp2
    go_ret
    exact ⟨ret_i (by rw [HD.out, if_neg HN.out]), HB.out⟩
set_option maxHeartbeats 1000000 in
theorem right_w {A0 A1 : Option Addr} {c0 c1 : Nat} {rows : List (List Int)} {owners : List Int} {f0 f1 : Int} {w : World} (h0 : Sl (Kd.slice 3 (Kd.int .i64)) w A0 c0 rows) (h1 : Sl (Kd.int .i64) w A1 c1 owners) :
    Calls Try.prog 91 #[.agg #[.slice A0 rows.length c0, .slice A1 owners.length c1], .agg #[.int .i64 f0, .int .i64 f1]] w fun e w' => e = .returned (.bool (rightS rows.length ⟨f0, f1⟩)) ∧ Below w.heap.size w w' := by
  by_cases g0 : 0 ≤ f0
  · by_cases g1 : f0 < (rows.length : Int)
    · have HR : Aside0 (rightS rows.length ⟨f0, f1⟩ = !([f1] : List Int).any outQ) := ⟨by unfold rightS; rw [inQ_not, decide_eq_true g0, decide_eq_true g1]; rfl⟩
      have H_rows := Aside0.mk h0
      clear h0 h1
      go_enter Try.func91, Try.ntmps91
      go_wp2_with fail
      have HB := Aside0.mk (Below.refl w.heap.size w)
      obtain ⟨w1, hw⟩ : ∃ W_, W_ = w.alloc (.cells #[.slice A0 rows.length c0, .slice A1 owners.length c1] 25) := ⟨_, rfl⟩
      rw [← hw]
      have hb : Below w.heap.size w w1 := by rw [hw]; exact below_alloc1 _ _
      have hz : w.heap.size = w.heap.size := rfl
      have hs : w1.heap.size = w.heap.size + 1 := by rw [hw, ← hz]; simp
      replace HB := Aside0.mk (below_then HB.out HB.out.size hb)
      have H_two0 := Aside0.mk (⟨by rw [hw, ← hz]; simp only [World.cell?]; rw [World.alloc_heap_new]; rfl, by rw [hs]; omega⟩ : w1.cell? ⟨w.heap.size, 0, none⟩ = some (.slice A0 rows.length c0) ∧ w.heap.size < w1.heap.size)
      have H_two1 := Aside0.mk (⟨by rw [hw, ← hz]; simp only [World.cell?]; rw [World.alloc_heap_new]; rfl, by rw [hs]; omega⟩ : w1.cell? ⟨w.heap.size, 1, none⟩ = some (.slice A1 owners.length c1) ∧ w.heap.size < w1.heap.size)
      clear hw hb hz
      have HZ := Aside0.mk hs; clear hs
      obtain ⟨w2, hw⟩ : ∃ W_, W_ = w1.alloc (.cells #[.int .i64 f0, .int .i64 f1] 38) := ⟨_, rfl⟩
      rw [← hw]
      have hb : Below w1.heap.size w1 w2 := by rw [hw]; exact below_alloc1 _ _
      have hz : w1.heap.size = w.heap.size + 1 := HZ.out
      have hs : w2.heap.size = w.heap.size + 1 + 1 := by rw [hw, ← hz]; simp
      replace H_two0 := Aside0.mk (cell_on H_two0.out hb)
      replace H_two1 := Aside0.mk (cell_on H_two1.out hb)
      replace HB := Aside0.mk (below_then HB.out HB.out.size hb)
      have H_sh0 := Aside0.mk (⟨by rw [hw, ← hz]; simp only [World.cell?]; rw [World.alloc_heap_new]; rfl, by rw [hs]; omega⟩ : w2.cell? ⟨w.heap.size + 1, 0, none⟩ = some (.int .i64 f0) ∧ w.heap.size + 1 < w2.heap.size)
      have H_sh1 := Aside0.mk (⟨by rw [hw, ← hz]; simp only [World.cell?]; rw [World.alloc_heap_new]; rfl, by rw [hs]; omega⟩ : w2.cell? ⟨w.heap.size + 1, 1, none⟩ = some (.int .i64 f1) ∧ w.heap.size + 1 < w2.heap.size)
      clear hw hb hz
      have HZ := Aside0.mk hs; clear hs
      obtain ⟨w3, hw⟩ : ∃ W_, W_ = w2.alloc (.cells #[.int .i64 f1] 3) := ⟨_, rfl⟩
      rw [← hw]
      have hb : Below w2.heap.size w2 w3 := by rw [hw]; exact below_alloc1 _ _
      have hz : w2.heap.size = w.heap.size + 1 + 1 := HZ.out
      have hs : w3.heap.size = w.heap.size + 1 + 1 + 1 := by rw [hw, ← hz]; simp
      have hl : Sl (Kd.int .i64) w3 (some ⟨w.heap.size + 1 + 1, 0, none⟩) 1 [f1] := by rw [hw, ← hz]; exact Sl.ints w2 3 [f1] (by show 1 ≤ 1000000; decide)
      replace H_two0 := Aside0.mk (cell_on H_two0.out hb)
      replace H_two1 := Aside0.mk (cell_on H_two1.out hb)
      replace H_sh0 := Aside0.mk (cell_on H_sh0.out hb)
      replace H_sh1 := Aside0.mk (cell_on H_sh1.out hb)
      replace HB := Aside0.mk (below_then HB.out HB.out.size hb)
      have H_n1 := Aside0.mk hl; clear hl
      clear hw hb hz
      have HZ := Aside0.mk hs; clear hs
      refine (dealing_numbers.calls _ _ [f1] (!([f1] : List Int).any outQ) _ H_n1.out.rd H_n1.out.le (by unfold dealing_numbers.f contains_outQ.f; rfl)).mono ?_
      rintro e w9 ⟨rfl, hd⟩
      have HB := Aside0.mk (below_then HB.out HB.out.size hd.below)
      clear hd
      generalize hq : (!([f1] : List Int).any outQ) = q
      have HQ := Aside0.mk hq; clear hq
      go_wp2
      go_ret
      exact ⟨ret_b (by rw [HR.out, ← HQ.out]), HB.out⟩
    · have HR : Aside0 (rightS rows.length ⟨f0, f1⟩ = false) := ⟨by unfold rightS; rw [decide_eq_false g1, Bool.and_false, Bool.false_and]⟩
      have H_rows := Aside0.mk h0
      clear h0 h1
      go_enter Try.func91, Try.ntmps91
      go_wp2
      go_ret
      exact ⟨ret_b HR.out, (((Below.refl _ _).alloc (Nat.le_refl _) _).alloc (by simp) _)⟩
  · have HR : Aside0 (rightS rows.length ⟨f0, f1⟩ = false) := ⟨by unfold rightS; rw [decide_eq_false g0, Bool.false_and, Bool.false_and]⟩
    have H_rows := Aside0.mk h0
    clear h0 h1
    go_enter Try.func91, Try.ntmps91
    go_wp2
    go_ret
    exact ⟨ret_b HR.out, (((Below.refl _ _).alloc (Nat.le_refl _) _).alloc (by simp) _)⟩
def pubFrom : Int → List Int → List Int → Int
  | x, c :: cs, e :: es => pubFrom (x * (c ^ (e % 1073741789).toNat % 2147483579) % 2147483579) cs es
  | x, _, _ => x
def publicD (rows : List (List Int)) (owners cm : List Int) (row : Int) : Int × Int :=
  if checkD rows owners cm = 0 then (if 0 ≤ row ∧ row < rows.length then (pubFrom 1 cm (rows.getD row.toNat []), 0) else (0, 1)) else (0, checkD rows owners cm)
theorem el_one : isEl 1 = true := by
  rw [isEl_iff, Int.one_pow]
  exact ⟨by decide, by decide, by decide⟩
theorem el_powI {c : Int} (h : isEl c = true) (v : Int) : isEl (c ^ (v % 1073741789).toNat % 2147483579) = true := el_pow h _
theorem noEl_all {cm : List Int} (h : cm.any noEl = false) : ∀ c ∈ cm, isEl c = true := fun c hc => by
  have := List.any_eq_false.1 h c hc
  unfold noEl at this
  simpa using this
theorem dcheck_ok {rows : List (List Int)} {owners cm : List Int} (h : checkD rows owners cm = 0) : checkP rows owners = 0 ∧ cm.length = colsP rows ∧ ∀ c ∈ cm, isEl c = true := by
  unfold checkD at h
  split at h
  · rename_i h1
    split at h
    · rename_i h2
      exact ⟨h1, h2.1, noEl_all h2.2⟩
    · cases h
  · rename_i h1
    exact absurd h h1
theorem dcheck_right {rows : List (List Int)} {owners cm : List Int} (h : checkD rows owners cm = 0) {j : Nat} (hj : j < rows.length) : (rows.getD j []).length = cm.length ∧ ∀ c ∈ cm, isEl c = true := by
  obtain ⟨h1, h2, h3⟩ := dcheck_ok h
  have hP := check_ok h1
  refine ⟨?_, h3⟩
  rw [h2, colsP, if_neg (by omega)]
  exact (hP.row j hj).2.1
theorem pub_step {x : Int} {cm row : List Int} {i : Nat} (hx : isEl x = true) (hi : i < cm.length) (hl : row.length = cm.length) (he : ∀ c ∈ cm, isEl c = true) :
    isEl (x * (cm.getD i 0 ^ (row.getD i 0 % 1073741789).toNat % 2147483579) % 2147483579) = true ∧ pubFrom (x * (cm.getD i 0 ^ (row.getD i 0 % 1073741789).toNat % 2147483579) % 2147483579) (cm.drop (i + 1)) (row.drop (i + 1)) = pubFrom x (cm.drop i) (row.drop i) := by
  have h1 : cm.getD i 0 = cm[i] := by rw [List.getD_eq_getElem?_getD, List.getElem?_eq_getElem hi]; rfl
  have h2 : row.getD i 0 = row[i] := by rw [List.getD_eq_getElem?_getD, List.getElem?_eq_getElem (by omega)]; rfl
  rw [h1, h2]
  refine ⟨el_mul hx (el_powI (he _ (List.getElem_mem hi)) _), ?_⟩
  rw [List.drop_eq_getElem_cons hi, List.drop_eq_getElem_cons (show i < row.length by omega), pubFrom]
set_option maxRecDepth 100000 in
set_option maxHeartbeats 4000000 in
theorem public_w {A0 A1 A2 : Option Addr} {c0 c1 c2 : Nat} {rows : List (List Int)} {owners : List Int} {cm : List Int} {row : Int} {w : World} (h0 : Sl (Kd.slice 3 (Kd.int .i64)) w A0 c0 rows) (h1 : Sl (Kd.int .i64) w A1 c1 owners) (h2 : Sl (Kd.int .i64) w A2 c2 cm) :
    Calls Try.prog 28 #[.agg #[.slice A0 rows.length c0, .slice A1 owners.length c1], .slice A2 cm.length c2, .int .i64 row] w fun e w' => e = .returned (.tuple #[.int .i64 (publicD rows owners cm row).1, .int .i64 (publicD rows owners cm row).2]) ∧ Below w.heap.size w w' := by
  have H_rows := Aside0.mk h0
  have H_own := Aside0.mk h1
  have H_cm := Aside0.mk h2
  have HB := Aside0.mk (Below.refl w.heap.size w)
  clear h0 h1 h2
  obtain ⟨t, ht⟩ : ∃ t, t = checkD rows owners cm := ⟨_, rfl⟩
  have HP : Aside0 (publicD rows owners cm row = if t = 0 then (if 0 ≤ row ∧ row < rows.length then (pubFrom 1 cm (rows.getD row.toNat []), 0) else (0, 1)) else (0, t)) := ⟨by rw [ht]; rfl⟩
  have HK : Aside0 (∀ W, Sl (Kd.slice 3 (Kd.int .i64)) W A0 c0 rows → Sl (Kd.int .i64) W A1 c1 owners → Sl (Kd.int .i64) W A2 c2 cm → Calls Try.prog 100 #[.agg #[.slice A0 rows.length c0, .slice A1 owners.length c1], .slice A2 cm.length c2] W fun e w' => e = .returned (.int .i64 t) ∧ Below W.heap.size W w') := ⟨fun W g0 g1 g2 => by rw [ht]; exact dcheck_w g0 g1 g2⟩
  rcases Decidable.em (t = 0) with h | h
  · skip
    have hd0 : checkD rows owners cm = 0 := ht.symm.trans h
    have HD0 := Aside0.mk hd0; clear ht hd0
    subst h
    by_cases g0 : 0 ≤ row
    · skip
      by_cases g1 : row < (rows.length : Int)
      · skip
        have HPP : Aside0 (publicD rows owners cm row = (pubFrom 1 cm (rows.getD row.toNat []), 0)) := ⟨by rw [HP.out, if_pos rfl, if_pos ⟨g0, g1⟩]⟩
        clear HP
        go_enter Try.func28, Try.ntmps28
        go_wp2_with fail
        obtain ⟨w1, hw⟩ : ∃ W_, W_ = w.alloc (.cells #[.slice A0 rows.length c0, .slice A1 owners.length c1] 25) := ⟨_, rfl⟩
        rw [← hw]
        have hb : Below w.heap.size w w1 := by rw [hw]; exact below_alloc1 _ _
        have hz : w.heap.size = w.heap.size := rfl
        have hs : w1.heap.size = w.heap.size + 1 := by rw [hw, ← hz]; simp
        replace H_rows := Aside0.mk (H_rows.out.below hb)
        replace H_own := Aside0.mk (H_own.out.below hb)
        replace H_cm := Aside0.mk (H_cm.out.below hb)
        replace HB := Aside0.mk (below_then HB.out HB.out.size hb)
        have H_two0 := Aside0.mk (⟨by rw [hw, ← hz]; simp only [World.cell?]; rw [World.alloc_heap_new]; rfl, by rw [hs]; omega⟩ : w1.cell? ⟨w.heap.size, 0, none⟩ = some (.slice A0 rows.length c0) ∧ w.heap.size < w1.heap.size)
        have H_two1 := Aside0.mk (⟨by rw [hw, ← hz]; simp only [World.cell?]; rw [World.alloc_heap_new]; rfl, by rw [hs]; omega⟩ : w1.cell? ⟨w.heap.size, 1, none⟩ = some (.slice A1 owners.length c1) ∧ w.heap.size < w1.heap.size)
        clear hw hb hz
        have HZ := Aside0.mk hs; clear hs
        refine (HK.out _ H_rows.out H_own.out H_cm.out).mono ?_
        rintro e w2 ⟨rfl, hb⟩
        replace H_rows := Aside0.mk (H_rows.out.below hb)
        replace H_own := Aside0.mk (H_own.out.below hb)
        replace H_cm := Aside0.mk (H_cm.out.below hb)
        replace H_two0 := Aside0.mk (cell_on H_two0.out hb)
        replace H_two1 := Aside0.mk (cell_on H_two1.out hb)
        replace HB := Aside0.mk (below_then HB.out HB.out.size hb)
        clear hb
        obtain ⟨j, hj⟩ : ∃ j : Nat, (j : Int) = row := ⟨row.toNat, by omega⟩
        subst hj
        rw [Int.toNat_natCast] at HPP
        obtain ⟨q1, q2⟩ := dcheck_right HD0.out (show j < rows.length by omega)
        have HQ1 := Aside0.mk q1; have HQ2 := Aside0.mk q2; clear q1 q2 HK
        have g3 : decide (j < rows.length) = true := decide_eq_true (by omega)
        have n0 : decide ((j : Int) < 0) = false := decide_eq_false (by omega)
        have n1 : decide (rows.length ≤ j) = false := decide_eq_false (by omega)
        have x0 := H_two0.out.1
        go_wp2_with fail
        clear x0
        obtain ⟨Wr, hWr⟩ : ∃ W_, W_ = w2 := ⟨_, rfl⟩
        rw [← hWr] at H_rows H_cm H_two0 HB ⊢
        clear hWr
        go_loopg [6, 30] cm.length (fun gk v6 v30 wr => ∃ (i : Nat) (x : Int), i ≤ cm.length ∧ gk = cm.length - i ∧ v30 = .int .i64 (i : Int) ∧ v6 = .int .i64 x ∧ Aside0 (isEl x = true ∧ pubFrom x (cm.drop i) ((rows.getD j []).drop i) = pubFrom 1 cm (rows.getD j []) ∧ Below Wr.heap.size Wr wr))
        case atStart => exact ⟨0, 1, Nat.zero_le _, rfl, rfl, rfl, ⟨el_one, rfl, Below.refl _ _⟩⟩
        case round =>
          obtain ⟨i, x, hi, rfl, rfl, rfl, HX⟩ := hrel
          by_cases hlt : i < cm.length
          · have d1 : decide ((i : Int) < (cm.length : Int)) = true := decide_eq_true (by omega)
            have d2 : decide (i < cm.length) = true := decide_eq_true hlt
            have d3 : (0 : Int) ≤ (i : Int) := by omega
            obtain ⟨ad, e, y1⟩ := Kd.at_int H_cm.out.rd (i : Int) (by omega) (by omega)
            cases e
            obtain ⟨ar, Ar, cr, e, z1, z2, z3⟩ := at_L1 H_rows.out.rd (j : Int) (by omega) (by omega)
            cases e
            rw [rd_L1_nat] at z1 z2 z3
            rw [rd_nat] at y1
            rw [Int.toNat_natCast] at y1 z1
            obtain ⟨ae, e, u1⟩ := Kd.at_int z3 (i : Int) (by omega) (by have := HQ1.out; omega)
            cases e
            rw [rd_nat, Int.toNat_natCast] at u1
            have hstep := pub_step HX.out.1 hlt HQ1.out HQ2.out
            rw [HX.out.2.1] at hstep
            have HB2 := HX.out.2.2
            replace y1 := (HB2.cell (World.block_lt_of_cell? Wr _ y1)).trans y1
            replace z1 := (HB2.cell (World.block_lt_of_cell? Wr _ z1)).trans z1
            replace u1 := (HB2.cell (World.block_lt_of_cell? Wr _ u1)).trans u1
            have x0 := (HB2.cell (p := ⟨w.heap.size, 0, none⟩) H_two0.out.2).trans H_two0.out.1
            have hl := HQ1.out
            have HE := Aside0.mk (HQ2.out (cm.getD i 0) (by rw [List.getD_eq_getElem?_getD, List.getElem?_eq_getElem hlt]; exact List.getElem_mem hlt))
            generalize cm.getD i 0 = c at y1 hstep HE
            generalize (rows.getD j []).getD i 0 = v at u1 hstep
            have d4 : decide (i < (rows.getD j []).length) = true := decide_eq_true (by omega)
            have d5 : (i : Int) < ((rows.getD j []).length : Int) := by omega
            generalize (rows.getD j []).length = n at z1 hl d4 d5
            have HL := Aside0.mk hl; have HST := Aside0.mk hstep; have HBB := Aside0.mk HB2; have HXE := Aside0.mk HX.out.1
            clear z2 z3 hl hstep HB2 HX
            go_wp2_with fail
            refine (group_Pow.calls c v _ _ _ (pow_el HE.out v)).mono ?_
            rintro e wa ⟨rfl, hb⟩
            have HBB2 := Aside0.mk (below_then HBB.out HBB.out.size hb)
            have HEP := Aside0.mk (el_powI HE.out v)
            generalize c ^ (v % 1073741789).toNat % 2147483579 = y at HEP HST
            clear hb x0 y1 z1 u1 HBB
            go_wp2_with fail
            refine (group_Mul.calls x y _ _ _ (mul_els HXE.out HEP.out)).mono ?_
            rintro e wb ⟨rfl, hd⟩
            have HB3 := Aside0.mk (below_then HBB2.out HBB2.out.size hd.below)
            clear hd HBB2
            go_wp2
            go_roundg (cm.length - (i + 1))
            case measure => omega
            case rel => exact ⟨i + 1, x * y % 2147483579, by omega, rfl, by first | rfl | rw [wrap_nextB (by have := H_cm.out.rd.2.1; omega)], rfl, ⟨HST.out.1, HST.out.2, HB3.out⟩⟩
          · obtain rfl : i = cm.length := by omega
            have d1 : decide ((cm.length : Int) < (cm.length : Int)) = false := decide_eq_false (by omega)
            have hx := HX.out.2.1
            rw [List.drop_length] at hx
            have hx : x = pubFrom 1 cm (rows.getD j []) := hx
            have HXX := Aside0.mk hx; clear hx
            go_wp2
            go_ret2
            exact ⟨ret_ii (by rw [HPP.out, ← HXX.out]), below_then HB.out HB.out.size HX.out.2.2⟩
      · skip
        have HPP : Aside0 (publicD rows owners cm row = (0, 1)) := ⟨by rw [HP.out, if_pos rfl, if_neg (fun q => g1 q.2)]⟩
        clear HP
        have n0 : decide (row < 0) = false := decide_eq_false (by omega)
        have n1 : decide ((rows.length : Int) ≤ row) = true := decide_eq_true (by omega)
        clear g0 g1
        go_enter Try.func28, Try.ntmps28
        go_wp2_with fail
        obtain ⟨w1, hw⟩ : ∃ W_, W_ = w.alloc (.cells #[.slice A0 rows.length c0, .slice A1 owners.length c1] 25) := ⟨_, rfl⟩
        rw [← hw]
        have hb : Below w.heap.size w w1 := by rw [hw]; exact below_alloc1 _ _
        have hz : w.heap.size = w.heap.size := rfl
        have hs : w1.heap.size = w.heap.size + 1 := by rw [hw, ← hz]; simp
        replace H_rows := Aside0.mk (H_rows.out.below hb)
        replace H_own := Aside0.mk (H_own.out.below hb)
        replace H_cm := Aside0.mk (H_cm.out.below hb)
        replace HB := Aside0.mk (below_then HB.out HB.out.size hb)
        have H_two0 := Aside0.mk (⟨by rw [hw, ← hz]; simp only [World.cell?]; rw [World.alloc_heap_new]; rfl, by rw [hs]; omega⟩ : w1.cell? ⟨w.heap.size, 0, none⟩ = some (.slice A0 rows.length c0) ∧ w.heap.size < w1.heap.size)
        have H_two1 := Aside0.mk (⟨by rw [hw, ← hz]; simp only [World.cell?]; rw [World.alloc_heap_new]; rfl, by rw [hs]; omega⟩ : w1.cell? ⟨w.heap.size, 1, none⟩ = some (.slice A1 owners.length c1) ∧ w.heap.size < w1.heap.size)
        clear hw hb hz
        have HZ := Aside0.mk hs; clear hs
        refine (HK.out _ H_rows.out H_own.out H_cm.out).mono ?_
        rintro e w2 ⟨rfl, hb⟩
        replace H_rows := Aside0.mk (H_rows.out.below hb)
        replace H_own := Aside0.mk (H_own.out.below hb)
        replace H_cm := Aside0.mk (H_cm.out.below hb)
        replace H_two0 := Aside0.mk (cell_on H_two0.out hb)
        replace H_two1 := Aside0.mk (cell_on H_two1.out hb)
        replace HB := Aside0.mk (below_then HB.out HB.out.size hb)
        clear hb
        have x_two0 := H_two0.out.1
        go_wp2
        go_ret2
        exact ⟨ret_ii HPP.out, HB.out⟩
    · skip
      have HPP : Aside0 (publicD rows owners cm row = (0, 1)) := ⟨by rw [HP.out, if_pos rfl, if_neg (fun q => g0 q.1)]⟩
      clear HP
      have n0 : decide (row < 0) = true := decide_eq_true (by omega)
      clear g0
      go_enter Try.func28, Try.ntmps28
      go_wp2_with fail
      obtain ⟨w1, hw⟩ : ∃ W_, W_ = w.alloc (.cells #[.slice A0 rows.length c0, .slice A1 owners.length c1] 25) := ⟨_, rfl⟩
      rw [← hw]
      have hb : Below w.heap.size w w1 := by rw [hw]; exact below_alloc1 _ _
      have hz : w.heap.size = w.heap.size := rfl
      have hs : w1.heap.size = w.heap.size + 1 := by rw [hw, ← hz]; simp
      replace H_rows := Aside0.mk (H_rows.out.below hb)
      replace H_own := Aside0.mk (H_own.out.below hb)
      replace H_cm := Aside0.mk (H_cm.out.below hb)
      replace HB := Aside0.mk (below_then HB.out HB.out.size hb)
      have H_two0 := Aside0.mk (⟨by rw [hw, ← hz]; simp only [World.cell?]; rw [World.alloc_heap_new]; rfl, by rw [hs]; omega⟩ : w1.cell? ⟨w.heap.size, 0, none⟩ = some (.slice A0 rows.length c0) ∧ w.heap.size < w1.heap.size)
      have H_two1 := Aside0.mk (⟨by rw [hw, ← hz]; simp only [World.cell?]; rw [World.alloc_heap_new]; rfl, by rw [hs]; omega⟩ : w1.cell? ⟨w.heap.size, 1, none⟩ = some (.slice A1 owners.length c1) ∧ w.heap.size < w1.heap.size)
      clear hw hb hz
      have HZ := Aside0.mk hs; clear hs
      refine (HK.out _ H_rows.out H_own.out H_cm.out).mono ?_
      rintro e w2 ⟨rfl, hb⟩
      replace H_rows := Aside0.mk (H_rows.out.below hb)
      replace H_own := Aside0.mk (H_own.out.below hb)
      replace H_cm := Aside0.mk (H_cm.out.below hb)
      replace H_two0 := Aside0.mk (cell_on H_two0.out hb)
      replace H_two1 := Aside0.mk (cell_on H_two1.out hb)
      replace HB := Aside0.mk (below_then HB.out HB.out.size hb)
      clear hb
      go_wp2
      go_ret2
      exact ⟨ret_ii HPP.out, HB.out⟩
  · skip
    clear ht
    have q1 : (t == 0) = false := beq_eq_false_iff_ne.mpr h
    have q2 : (t != 0) = true := bne_iff_ne.mpr h
    have HN := Aside0.mk h
    go_enter Try.func28, Try.ntmps28
    go_wp2_with fail
    obtain ⟨w1, hw⟩ : ∃ W_, W_ = w.alloc (.cells #[.slice A0 rows.length c0, .slice A1 owners.length c1] 25) := ⟨_, rfl⟩
    rw [← hw]
    have hb : Below w.heap.size w w1 := by rw [hw]; exact below_alloc1 _ _
    have hz : w.heap.size = w.heap.size := rfl
    have hs : w1.heap.size = w.heap.size + 1 := by rw [hw, ← hz]; simp
    replace H_rows := Aside0.mk (H_rows.out.below hb)
    replace H_own := Aside0.mk (H_own.out.below hb)
    replace H_cm := Aside0.mk (H_cm.out.below hb)
    replace HB := Aside0.mk (below_then HB.out HB.out.size hb)
    have H_two0 := Aside0.mk (⟨by rw [hw, ← hz]; simp only [World.cell?]; rw [World.alloc_heap_new]; rfl, by rw [hs]; omega⟩ : w1.cell? ⟨w.heap.size, 0, none⟩ = some (.slice A0 rows.length c0) ∧ w.heap.size < w1.heap.size)
    have H_two1 := Aside0.mk (⟨by rw [hw, ← hz]; simp only [World.cell?]; rw [World.alloc_heap_new]; rfl, by rw [hs]; omega⟩ : w1.cell? ⟨w.heap.size, 1, none⟩ = some (.slice A1 owners.length c1) ∧ w.heap.size < w1.heap.size)
    clear hw hb hz
    have HZ := Aside0.mk hs; clear hs
    refine (HK.out _ H_rows.out H_own.out H_cm.out).mono ?_
    rintro e w2 ⟨rfl, hb⟩
    replace H_rows := Aside0.mk (H_rows.out.below hb)
    replace H_own := Aside0.mk (H_own.out.below hb)
    replace H_cm := Aside0.mk (H_cm.out.below hb)
    replace H_two0 := Aside0.mk (cell_on H_two0.out hb)
    replace H_two1 := Aside0.mk (cell_on H_two1.out hb)
    replace HB := Aside0.mk (below_then HB.out HB.out.size hb)
    clear hb
    go_wp2
    go_ret2
    exact ⟨ret_ii (by rw [HP.out, if_neg HN.out]), HB.out⟩
def fitsD (rows : List (List Int)) (owners cm : List Int) (row v : Int) : Bool × Int :=
  if checkD rows owners cm = 0 then (if rightS rows.length ⟨row, v⟩ then (commitQ v == (publicD rows owners cm row).1, 0) else (false, 340)) else (false, checkD rows owners cm)
theorem rightS_row {n : Nat} {row v : Int} (h : rightS n ⟨row, v⟩ = true) : 0 ≤ row ∧ row < n := by
  unfold rightS at h
  simp only [Bool.and_eq_true, decide_eq_true_eq] at h
  exact h.1
set_option maxRecDepth 100000 in
set_option maxHeartbeats 4000000 in
theorem fits_w {A0 A1 A2 : Option Addr} {c0 c1 c2 : Nat} {rows : List (List Int)} {owners : List Int} {cm : List Int} {row v : Int} {w : World} (h0 : Sl (Kd.slice 3 (Kd.int .i64)) w A0 c0 rows) (h1 : Sl (Kd.int .i64) w A1 c1 owners) (h2 : Sl (Kd.int .i64) w A2 c2 cm) :
    Calls Try.prog 30 #[.agg #[.slice A0 rows.length c0, .slice A1 owners.length c1], .slice A2 cm.length c2, .agg #[.int .i64 row, .int .i64 v]] w fun e w' => e = .returned (.tuple #[.bool (fitsD rows owners cm row v).1, .int .i64 (fitsD rows owners cm row v).2]) ∧ Below w.heap.size w w' := by
  have H_rows := Aside0.mk h0
  have H_own := Aside0.mk h1
  have H_cm := Aside0.mk h2
  have HB := Aside0.mk (Below.refl w.heap.size w)
  clear h0 h1 h2
  obtain ⟨t, ht⟩ : ∃ t, t = checkD rows owners cm := ⟨_, rfl⟩
  have HK : Aside0 (∀ W, Sl (Kd.slice 3 (Kd.int .i64)) W A0 c0 rows → Sl (Kd.int .i64) W A1 c1 owners → Sl (Kd.int .i64) W A2 c2 cm → Calls Try.prog 100 #[.agg #[.slice A0 rows.length c0, .slice A1 owners.length c1], .slice A2 cm.length c2] W fun e w' => e = .returned (.int .i64 t) ∧ Below W.heap.size W w') := ⟨fun W g0 g1 g2 => by rw [ht]; exact dcheck_w g0 g1 g2⟩
  rcases Decidable.em (t = 0) with h | h
  · skip
    have hd0 : checkD rows owners cm = 0 := ht.symm.trans h
    clear ht
    subst h
    cases hr : rightS rows.length ⟨row, v⟩ with
    | false =>
      have HF : Aside0 (fitsD rows owners cm row v = (false, 340)) := ⟨by unfold fitsD; rw [if_pos hd0, hr]; rfl⟩
      have HR := Aside0.mk hr; clear hr hd0
      go_enter Try.func30, Try.ntmps30
      go_wp2_with fail
      obtain ⟨w1, hw⟩ : ∃ W_, W_ = w.alloc (.cells #[.slice A0 rows.length c0, .slice A1 owners.length c1] 25) := ⟨_, rfl⟩
      rw [← hw]
      have hb : Below w.heap.size w w1 := by rw [hw]; exact below_alloc1 _ _
      have hz : w.heap.size = w.heap.size := rfl
      have hs : w1.heap.size = w.heap.size + 1 := by rw [hw, ← hz]; simp
      replace H_rows := Aside0.mk (H_rows.out.below hb)
      replace H_own := Aside0.mk (H_own.out.below hb)
      replace H_cm := Aside0.mk (H_cm.out.below hb)
      replace HB := Aside0.mk (below_then HB.out HB.out.size hb)
      have H_two0 := Aside0.mk (⟨by rw [hw, ← hz]; simp only [World.cell?]; rw [World.alloc_heap_new]; rfl, by rw [hs]; omega⟩ : w1.cell? ⟨w.heap.size, 0, none⟩ = some (.slice A0 rows.length c0) ∧ w.heap.size < w1.heap.size)
      have H_two1 := Aside0.mk (⟨by rw [hw, ← hz]; simp only [World.cell?]; rw [World.alloc_heap_new]; rfl, by rw [hs]; omega⟩ : w1.cell? ⟨w.heap.size, 1, none⟩ = some (.slice A1 owners.length c1) ∧ w.heap.size < w1.heap.size)
      clear hw hb hz
      have HZ := Aside0.mk hs; clear hs
      obtain ⟨w2, hw⟩ : ∃ W_, W_ = w1.alloc (.cells #[.int .i64 row, .int .i64 v] 38) := ⟨_, rfl⟩
      rw [← hw]
      have hb : Below w1.heap.size w1 w2 := by rw [hw]; exact below_alloc1 _ _
      have hz : w1.heap.size = w.heap.size + 1 := HZ.out
      have hs : w2.heap.size = w.heap.size + 1 + 1 := by rw [hw, ← hz]; simp
      replace H_rows := Aside0.mk (H_rows.out.below hb)
      replace H_own := Aside0.mk (H_own.out.below hb)
      replace H_cm := Aside0.mk (H_cm.out.below hb)
      replace H_two0 := Aside0.mk (cell_on H_two0.out hb)
      replace H_two1 := Aside0.mk (cell_on H_two1.out hb)
      replace HB := Aside0.mk (below_then HB.out HB.out.size hb)
      have H_sh0 := Aside0.mk (⟨by rw [hw, ← hz]; simp only [World.cell?]; rw [World.alloc_heap_new]; rfl, by rw [hs]; omega⟩ : w2.cell? ⟨w.heap.size + 1, 0, none⟩ = some (.int .i64 row) ∧ w.heap.size + 1 < w2.heap.size)
      have H_sh1 := Aside0.mk (⟨by rw [hw, ← hz]; simp only [World.cell?]; rw [World.alloc_heap_new]; rfl, by rw [hs]; omega⟩ : w2.cell? ⟨w.heap.size + 1, 1, none⟩ = some (.int .i64 v) ∧ w.heap.size + 1 < w2.heap.size)
      clear hw hb hz
      have HZ := Aside0.mk hs; clear hs
      refine (HK.out _ H_rows.out H_own.out H_cm.out).mono ?_
      rintro e w3 ⟨rfl, hb⟩
      replace H_rows := Aside0.mk (H_rows.out.below hb)
      replace H_own := Aside0.mk (H_own.out.below hb)
      replace H_cm := Aside0.mk (H_cm.out.below hb)
      replace H_two0 := Aside0.mk (cell_on H_two0.out hb)
      replace H_two1 := Aside0.mk (cell_on H_two1.out hb)
      replace H_sh0 := Aside0.mk (cell_on H_sh0.out hb)
      replace H_sh1 := Aside0.mk (cell_on H_sh1.out hb)
      replace HB := Aside0.mk (below_then HB.out HB.out.size hb)
      clear hb
      have x_two0 := H_two0.out.1
      have x_two1 := H_two1.out.1
      have x_sh0 := H_sh0.out.1
      have x_sh1 := H_sh1.out.1
      go_wp2_with fail
      clear x_two0 x_two1 x_sh0 x_sh1
      have HQ := right_w (f0 := row) (f1 := v) H_rows.out H_own.out
      rw [HR.out] at HQ
      refine (HQ).mono ?_
      rintro e w4 ⟨rfl, hb⟩
      replace H_rows := Aside0.mk (H_rows.out.below hb)
      replace H_own := Aside0.mk (H_own.out.below hb)
      replace H_cm := Aside0.mk (H_cm.out.below hb)
      replace H_two0 := Aside0.mk (cell_on H_two0.out hb)
      replace H_two1 := Aside0.mk (cell_on H_two1.out hb)
      replace H_sh0 := Aside0.mk (cell_on H_sh0.out hb)
      replace H_sh1 := Aside0.mk (cell_on H_sh1.out hb)
      replace HB := Aside0.mk (below_then HB.out HB.out.size hb)
      clear hb
      clear HQ
      go_wp2
      go_ret2
      exact ⟨ret_bi HF.out, HB.out⟩
    | true =>
      obtain ⟨g0, g1⟩ := rightS_row hr
      obtain ⟨y, hy⟩ : ∃ y, publicD rows owners cm row = (y, 0) := ⟨_, by unfold publicD; rw [if_pos hd0, if_pos ⟨g0, g1⟩]⟩
      have HF : Aside0 (fitsD rows owners cm row v = (commitQ v == y, 0)) := ⟨by unfold fitsD; rw [if_pos hd0, hr, hy]; rfl⟩
      have HR := Aside0.mk hr; have HY := Aside0.mk hy; clear hr hd0 hy g0 g1
      go_enter Try.func30, Try.ntmps30
      go_wp2_with fail
      obtain ⟨w1, hw⟩ : ∃ W_, W_ = w.alloc (.cells #[.slice A0 rows.length c0, .slice A1 owners.length c1] 25) := ⟨_, rfl⟩
      rw [← hw]
      have hb : Below w.heap.size w w1 := by rw [hw]; exact below_alloc1 _ _
      have hz : w.heap.size = w.heap.size := rfl
      have hs : w1.heap.size = w.heap.size + 1 := by rw [hw, ← hz]; simp
      replace H_rows := Aside0.mk (H_rows.out.below hb)
      replace H_own := Aside0.mk (H_own.out.below hb)
      replace H_cm := Aside0.mk (H_cm.out.below hb)
      replace HB := Aside0.mk (below_then HB.out HB.out.size hb)
      have H_two0 := Aside0.mk (⟨by rw [hw, ← hz]; simp only [World.cell?]; rw [World.alloc_heap_new]; rfl, by rw [hs]; omega⟩ : w1.cell? ⟨w.heap.size, 0, none⟩ = some (.slice A0 rows.length c0) ∧ w.heap.size < w1.heap.size)
      have H_two1 := Aside0.mk (⟨by rw [hw, ← hz]; simp only [World.cell?]; rw [World.alloc_heap_new]; rfl, by rw [hs]; omega⟩ : w1.cell? ⟨w.heap.size, 1, none⟩ = some (.slice A1 owners.length c1) ∧ w.heap.size < w1.heap.size)
      clear hw hb hz
      have HZ := Aside0.mk hs; clear hs
      obtain ⟨w2, hw⟩ : ∃ W_, W_ = w1.alloc (.cells #[.int .i64 row, .int .i64 v] 38) := ⟨_, rfl⟩
      rw [← hw]
      have hb : Below w1.heap.size w1 w2 := by rw [hw]; exact below_alloc1 _ _
      have hz : w1.heap.size = w.heap.size + 1 := HZ.out
      have hs : w2.heap.size = w.heap.size + 1 + 1 := by rw [hw, ← hz]; simp
      replace H_rows := Aside0.mk (H_rows.out.below hb)
      replace H_own := Aside0.mk (H_own.out.below hb)
      replace H_cm := Aside0.mk (H_cm.out.below hb)
      replace H_two0 := Aside0.mk (cell_on H_two0.out hb)
      replace H_two1 := Aside0.mk (cell_on H_two1.out hb)
      replace HB := Aside0.mk (below_then HB.out HB.out.size hb)
      have H_sh0 := Aside0.mk (⟨by rw [hw, ← hz]; simp only [World.cell?]; rw [World.alloc_heap_new]; rfl, by rw [hs]; omega⟩ : w2.cell? ⟨w.heap.size + 1, 0, none⟩ = some (.int .i64 row) ∧ w.heap.size + 1 < w2.heap.size)
      have H_sh1 := Aside0.mk (⟨by rw [hw, ← hz]; simp only [World.cell?]; rw [World.alloc_heap_new]; rfl, by rw [hs]; omega⟩ : w2.cell? ⟨w.heap.size + 1, 1, none⟩ = some (.int .i64 v) ∧ w.heap.size + 1 < w2.heap.size)
      clear hw hb hz
      have HZ := Aside0.mk hs; clear hs
      refine (HK.out _ H_rows.out H_own.out H_cm.out).mono ?_
      rintro e w3 ⟨rfl, hb⟩
      replace H_rows := Aside0.mk (H_rows.out.below hb)
      replace H_own := Aside0.mk (H_own.out.below hb)
      replace H_cm := Aside0.mk (H_cm.out.below hb)
      replace H_two0 := Aside0.mk (cell_on H_two0.out hb)
      replace H_two1 := Aside0.mk (cell_on H_two1.out hb)
      replace H_sh0 := Aside0.mk (cell_on H_sh0.out hb)
      replace H_sh1 := Aside0.mk (cell_on H_sh1.out hb)
      replace HB := Aside0.mk (below_then HB.out HB.out.size hb)
      clear hb
      have x_two0 := H_two0.out.1
      have x_two1 := H_two1.out.1
      have x_sh0 := H_sh0.out.1
      have x_sh1 := H_sh1.out.1
      go_wp2_with fail
      clear x_two0 x_two1 x_sh0 x_sh1
      have HQ := right_w (f0 := row) (f1 := v) H_rows.out H_own.out
      rw [HR.out] at HQ
      refine (HQ).mono ?_
      rintro e w4 ⟨rfl, hb⟩
      replace H_rows := Aside0.mk (H_rows.out.below hb)
      replace H_own := Aside0.mk (H_own.out.below hb)
      replace H_cm := Aside0.mk (H_cm.out.below hb)
      replace H_two0 := Aside0.mk (cell_on H_two0.out hb)
      replace H_two1 := Aside0.mk (cell_on H_two1.out hb)
      replace H_sh0 := Aside0.mk (cell_on H_sh0.out hb)
      replace H_sh1 := Aside0.mk (cell_on H_sh1.out hb)
      replace HB := Aside0.mk (below_then HB.out HB.out.size hb)
      clear hb
      clear HQ
      have x_two0 := H_two0.out.1
      have x_two1 := H_two1.out.1
      have x_sh0 := H_sh0.out.1
      go_wp2_with fail
      clear x_two0 x_two1 x_sh0
      have HQ := public_w (row := row) H_rows.out H_own.out H_cm.out
      rw [HY.out] at HQ
      refine (HQ).mono ?_
      rintro e w5 ⟨rfl, hb⟩
      clear H_rows
      clear H_own
      clear H_cm
      clear H_two0
      clear H_two1
      replace H_sh0 := Aside0.mk (cell_on H_sh0.out hb)
      replace H_sh1 := Aside0.mk (cell_on H_sh1.out hb)
      replace HB := Aside0.mk (below_then HB.out HB.out.size hb)
      clear hb
      clear HQ
      have x_sh1 := H_sh1.out.1
      go_wp2_with fail
      clear x_sh1
      refine (group_Pow.calls 4 v _ _ _ (pow_four v)).mono ?_
      rintro e w6 ⟨rfl, hb⟩
      replace H_sh0 := Aside0.mk (cell_on H_sh0.out hb)
      replace H_sh1 := Aside0.mk (cell_on H_sh1.out hb)
      replace HB := Aside0.mk (below_then HB.out HB.out.size hb)
      clear hb
      generalize commitQ v = z at HF ⊢
      go_wp2
      go_ret2
      exact ⟨ret_bi HF.out, HB.out⟩
  · skip
    have HF : Aside0 (fitsD rows owners cm row v = (false, t)) := ⟨by unfold fitsD; rw [← ht, if_neg h]⟩
    clear ht
    have q1 : (t == 0) = false := beq_eq_false_iff_ne.mpr h
    have q2 : (t != 0) = true := bne_iff_ne.mpr h
    go_enter Try.func30, Try.ntmps30
    go_wp2_with fail
    obtain ⟨w1, hw⟩ : ∃ W_, W_ = w.alloc (.cells #[.slice A0 rows.length c0, .slice A1 owners.length c1] 25) := ⟨_, rfl⟩
    rw [← hw]
    have hb : Below w.heap.size w w1 := by rw [hw]; exact below_alloc1 _ _
    have hz : w.heap.size = w.heap.size := rfl
    have hs : w1.heap.size = w.heap.size + 1 := by rw [hw, ← hz]; simp
    replace H_rows := Aside0.mk (H_rows.out.below hb)
    replace H_own := Aside0.mk (H_own.out.below hb)
    replace H_cm := Aside0.mk (H_cm.out.below hb)
    replace HB := Aside0.mk (below_then HB.out HB.out.size hb)
    have H_two0 := Aside0.mk (⟨by rw [hw, ← hz]; simp only [World.cell?]; rw [World.alloc_heap_new]; rfl, by rw [hs]; omega⟩ : w1.cell? ⟨w.heap.size, 0, none⟩ = some (.slice A0 rows.length c0) ∧ w.heap.size < w1.heap.size)
    have H_two1 := Aside0.mk (⟨by rw [hw, ← hz]; simp only [World.cell?]; rw [World.alloc_heap_new]; rfl, by rw [hs]; omega⟩ : w1.cell? ⟨w.heap.size, 1, none⟩ = some (.slice A1 owners.length c1) ∧ w.heap.size < w1.heap.size)
    clear hw hb hz
    have HZ := Aside0.mk hs; clear hs
    obtain ⟨w2, hw⟩ : ∃ W_, W_ = w1.alloc (.cells #[.int .i64 row, .int .i64 v] 38) := ⟨_, rfl⟩
    rw [← hw]
    have hb : Below w1.heap.size w1 w2 := by rw [hw]; exact below_alloc1 _ _
    have hz : w1.heap.size = w.heap.size + 1 := HZ.out
    have hs : w2.heap.size = w.heap.size + 1 + 1 := by rw [hw, ← hz]; simp
    replace H_rows := Aside0.mk (H_rows.out.below hb)
    replace H_own := Aside0.mk (H_own.out.below hb)
    replace H_cm := Aside0.mk (H_cm.out.below hb)
    replace H_two0 := Aside0.mk (cell_on H_two0.out hb)
    replace H_two1 := Aside0.mk (cell_on H_two1.out hb)
    replace HB := Aside0.mk (below_then HB.out HB.out.size hb)
    have H_sh0 := Aside0.mk (⟨by rw [hw, ← hz]; simp only [World.cell?]; rw [World.alloc_heap_new]; rfl, by rw [hs]; omega⟩ : w2.cell? ⟨w.heap.size + 1, 0, none⟩ = some (.int .i64 row) ∧ w.heap.size + 1 < w2.heap.size)
    have H_sh1 := Aside0.mk (⟨by rw [hw, ← hz]; simp only [World.cell?]; rw [World.alloc_heap_new]; rfl, by rw [hs]; omega⟩ : w2.cell? ⟨w.heap.size + 1, 1, none⟩ = some (.int .i64 v) ∧ w.heap.size + 1 < w2.heap.size)
    clear hw hb hz
    have HZ := Aside0.mk hs; clear hs
    refine (HK.out _ H_rows.out H_own.out H_cm.out).mono ?_
    rintro e w3 ⟨rfl, hb⟩
    replace H_rows := Aside0.mk (H_rows.out.below hb)
    replace H_own := Aside0.mk (H_own.out.below hb)
    replace H_cm := Aside0.mk (H_cm.out.below hb)
    replace H_two0 := Aside0.mk (cell_on H_two0.out hb)
    replace H_two1 := Aside0.mk (cell_on H_two1.out hb)
    replace H_sh0 := Aside0.mk (cell_on H_sh0.out hb)
    replace H_sh1 := Aside0.mk (cell_on H_sh1.out hb)
    replace HB := Aside0.mk (below_then HB.out HB.out.size hb)
    clear hb
    go_wp2
    go_ret2
    exact ⟨ret_bi HF.out, HB.out⟩
end Go.Proofs.Ytdbamhckgaoibaa.P
namespace Go.Proofs.Ytdbamhckgaoibaa.P
open Go.RowKit Go.Proofs.YtdbamhckgaoibaaW.PrintWords Go.Proofs.YtdbamhckgaoibaaW.PrintLast Go.Proofs.YtdbamhckgaoibaaW.PrintMore
attribute [local go_sem] max2_int min2_int max_two min_two max_three min_three max_four min_four
set_option linter.unusedVariables false
set_option linter.unusedSimpArgs false
attribute [local go_sem high] eqA38
mutual
def signatoryref23_Check.l0 : Nat → Int → List (List Int) → List Int → Option (Int)
 | 0, _, _, _ => none
 | k + 1, x3, x211000, x211001 => if x3 < (x211000.length : Int) then (if 0 ≤ x3 then (if ((rd_L1 x211000 x3).length : Int) > 64 then (some 2) else (signatoryref23_Check.l0 k (wrap64 (x3 + 1)) x211000 x211001)) else (none)) else (if (x211000.length : Int) = (x211001.length : Int) then (signatoryref23_Check.l1 k 0 x211000 x211001) else (some 230))
def signatoryref23_Check.l1 : Nat → Int → List (List Int) → List Int → Option (Int)
 | 0, _, _, _ => none
 | k + 1, x4, x211000, x211001 => if x4 < (x211000.length : Int) then (if 0 ≤ x4 then (if ((rd_L1 x211000 x4).length : Int) < 1 then (signatoryref23_Check.j2 k x4 true x211000 x211001) else (if 0 < (x211000.length : Int) then (if ((rd_L1 x211000 x4).length : Int) = ((rd_L1 x211000 0).length : Int) then (if x4 < (x211001.length : Int) then (if (rd x211001 x4) < 0 then (signatoryref23_Check.j2 k x4 true x211000 x211001) else (signatoryref23_Check.j2 k x4 (decide ((rd x211001 x4) ≥ 64)) x211000 x211001)) else (none)) else (signatoryref23_Check.j2 k x4 true x211000 x211001)) else (none))) else (none)) else (some 0)
def signatoryref23_Check.j2 : Nat → Int → Bool → List (List Int) → List Int → Option (Int)
 | 0, _, _, _, _ => none
 | k + 1, x4, x74, x211000, x211001 => if x74 = true then (some 230) else (signatoryref23_Check.l2 k x4 0 x211000 x211001)
def signatoryref23_Check.l2 : Nat → Int → Int → List (List Int) → List Int → Option (Int)
 | 0, _, _, _, _ => none
 | k + 1, x4, x5, x211000, x211001 => if 0 ≤ x4 then (if x4 < (x211000.length : Int) then (if x5 < ((rd_L1 x211000 x4).length : Int) then (if 0 ≤ x5 then (if (rd (rd_L1 x211000 x4) x5) < 0 then (some 230) else (if (rd (rd_L1 x211000 x4) x5) ≥ 1073741789 then (some 230) else (signatoryref23_Check.l2 k x4 (wrap64 (x5 + 1)) x211000 x211001))) else (none)) else (signatoryref23_Check.l1 k (wrap64 (x4 + 1)) x211000 x211001)) else (none)) else (none)
end
def signatoryref23_Check.f (k : Nat) (l0_0 : List (List Int)) (l0_1 : List Int) : Option (Int) := if (l0_0.length : Int) > 64 then (some 2) else (signatoryref23_Check.l0 k 0 l0_0 l0_1)
set_option maxHeartbeats 8000000 in
set_option maxRecDepth 100000 in
theorem signatoryref23_Check.calls (k : Nat) (A0_0 : Option Addr) (c0_0 : Nat) (l0_0 : List (List Int)) (A0_1 : Option Addr) (c0_1 : Nat) (l0_1 : List Int) (r : Int) (w : World) (hr0_0 : Kd.C (Kd.slice 3 (Kd.int .i64)) w A0_0 l0_0.length l0_0) (hc0_0 : l0_0.length ≤ c0_0) (hr0_1 : Kd.C (Kd.int .i64) w A0_1 l0_1.length l0_1) (hc0_1 : l0_1.length ≤ c0_1) (h : signatoryref23_Check.f k l0_0 l0_1 = some r) :
  Calls Try.prog 58 #[.agg #[.slice A0_0 l0_0.length c0_0, .slice A0_1 l0_1.length c0_1]] w fun e w' => e = .returned (.int .i64 r) ∧ Below w.heap.size w w' := by
 have hu25 := Try.underlying25
 have HR0_0 := Aside0.mk hr0_0
 have HC0_0 := Aside0.mk hc0_0
 clear hr0_0 hc0_0
 have HR0_1 := Aside0.mk hr0_1
 have HC0_1 := Aside0.mk hc0_1
 clear hr0_1 hc0_1
 have HB := Aside0.mk (Below.refl w.heap.size w)
 have H : (if (l0_0.length : Int) > 64 then (some 2) else (signatoryref23_Check.l0 k 0 l0_0 l0_1)) = some r := h
 clear h
 by_cases c2 : (l0_0.length : Int) > 64
 ·rw [if_pos c2] at H
  have c2b0 : decide (64 < (l0_0.length : Int)) = true := decide_eq_true c2
  have c2b1 : decide (64 < l0_0.length) = true := decide_eq_true (by omega)
  clear c2
  obtain rfl := Option.some.inj H
  go_enter Try.func58, Try.ntmps58
  go_wp2_with (first | ((with_reducible refine gate_dst (N := 1) rfl ?_); (try (refine gate_guard (by rfl) ?_; dsimp only)); refine box_event ?hg (N := 1) ?hd (cs := #[.slice A0_0 l0_0.length c0_0, .slice A0_1 l0_1.length c0_1]) (t := 25) ?hr ?_; (case hd => rfl); (case hg => rfl); (case hr => first | (go_simp; done) | (go_simp; rfl)); intro gb210 hg w3 hbox hb; have n0_ := Aside0.mk (below_step (by repeat (first | (with_reducible first | exact HB.out | apply below_alloc | apply pw_below_drewN | apply below_drew1) | exact HB.out)) hb); have n1_ := Aside0.mk (hbox); have n2_ := Aside0.mk ((by rw [hg]; exact (below_size (by repeat (first | (with_reducible first | exact HB.out | apply below_alloc | apply pw_below_drewN | apply below_drew1) | exact HB.out))) : w.heap.size ≤ gb210)); have n3_ := Aside0.mk ((by rw [hg]; exact (below_size (by repeat (first | (with_reducible first | exact HB.out | apply below_alloc | apply pw_below_drewN | apply below_drew1) | exact HB.out))) : w.heap.size ≤ gb210)); clear HB; have HB := n0_; have BK210 := n1_; have GW210 := n2_; have GE210 := n3_; clear n0_ n1_ n2_ n3_; clear hb hbox hg; have hcz4_0 : w3.cell? ⟨gb210, 0, none⟩ = some (.slice A0_0 l0_0.length c0_0) := (blk_cell BK210.out 0).trans rfl; have hcz4_1 : w3.cell? ⟨gb210, 1, none⟩ = some (.slice A0_1 l0_1.length c0_1) := (blk_cell BK210.out 1).trans rfl; have hfz4_0 := blk_frozen BK210.out 0; have hfz4_1 := blk_frozen BK210.out 1))
  repeat (go_quiet (first | ((with_reducible refine gate_dst (N := 1) rfl ?_); (try (refine gate_guard (by rfl) ?_; dsimp only)); refine box_event ?hg (N := 1) ?hd (cs := #[.slice A0_0 l0_0.length c0_0, .slice A0_1 l0_1.length c0_1]) (t := 25) ?hr ?_; (case hd => rfl); (case hg => rfl); (case hr => first | (go_simp; done) | (go_simp; rfl)); intro gb210 hg w3 hbox hb; have n0_ := Aside0.mk (below_step (by repeat (first | (with_reducible first | exact HB.out | apply below_alloc | apply pw_below_drewN | apply below_drew1) | exact HB.out)) hb); have n1_ := Aside0.mk (hbox); have n2_ := Aside0.mk ((by rw [hg]; exact (below_size (by repeat (first | (with_reducible first | exact HB.out | apply below_alloc | apply pw_below_drewN | apply below_drew1) | exact HB.out))) : w.heap.size ≤ gb210)); have n3_ := Aside0.mk ((by rw [hg]; exact (below_size (by repeat (first | (with_reducible first | exact HB.out | apply below_alloc | apply pw_below_drewN | apply below_drew1) | exact HB.out))) : w.heap.size ≤ gb210)); clear HB; have HB := n0_; have BK210 := n1_; have GW210 := n2_; have GE210 := n3_; clear n0_ n1_ n2_ n3_; clear hb hbox hg; have hcz4_0 : w3.cell? ⟨gb210, 0, none⟩ = some (.slice A0_0 l0_0.length c0_0) := (blk_cell BK210.out 0).trans rfl; have hcz4_1 : w3.cell? ⟨gb210, 1, none⟩ = some (.slice A0_1 l0_1.length c0_1) := (blk_cell BK210.out 1).trans rfl; have hfz4_0 := blk_frozen BK210.out 0; have hfz4_1 := blk_frozen BK210.out 1)); try go_wp2_with (first | ((with_reducible refine gate_dst (N := 1) rfl ?_); (try (refine gate_guard (by rfl) ?_; dsimp only)); refine box_event ?hg (N := 1) ?hd (cs := #[.slice A0_0 l0_0.length c0_0, .slice A0_1 l0_1.length c0_1]) (t := 25) ?hr ?_; (case hd => rfl); (case hg => rfl); (case hr => first | (go_simp; done) | (go_simp; rfl)); intro gb210 hg w3 hbox hb; have n0_ := Aside0.mk (below_step (by repeat (first | (with_reducible first | exact HB.out | apply below_alloc | apply pw_below_drewN | apply below_drew1) | exact HB.out)) hb); have n1_ := Aside0.mk (hbox); have n2_ := Aside0.mk ((by rw [hg]; exact (below_size (by repeat (first | (with_reducible first | exact HB.out | apply below_alloc | apply pw_below_drewN | apply below_drew1) | exact HB.out))) : w.heap.size ≤ gb210)); have n3_ := Aside0.mk ((by rw [hg]; exact (below_size (by repeat (first | (with_reducible first | exact HB.out | apply below_alloc | apply pw_below_drewN | apply below_drew1) | exact HB.out))) : w.heap.size ≤ gb210)); clear HB; have HB := n0_; have BK210 := n1_; have GW210 := n2_; have GE210 := n3_; clear n0_ n1_ n2_ n3_; clear hb hbox hg; have hcz4_0 : w3.cell? ⟨gb210, 0, none⟩ = some (.slice A0_0 l0_0.length c0_0) := (blk_cell BK210.out 0).trans rfl; have hcz4_1 : w3.cell? ⟨gb210, 1, none⟩ = some (.slice A0_1 l0_1.length c0_1) := (blk_cell BK210.out 1).trans rfl; have hfz4_0 := blk_frozen BK210.out 0; have hfz4_1 := blk_frozen BK210.out 1)))
  go_ret
  exact ⟨by first | rfl | (simp [errW_none, errW_some] <;> rfl) | (simp [*, errW_none, errW_some] <;> rfl), by repeat (first | (with_reducible first | exact HB.out | apply below_alloc | apply pw_below_drewN | apply below_drew1 | refine below_set ?_ GE210.out) | exact HB.out)⟩
 ·rw [if_neg c2] at H
  have c2b0 : decide (64 < (l0_0.length : Int)) = false := decide_eq_false c2
  have c2b1 : decide (64 < l0_0.length) = false := decide_eq_false (by omega)
  clear c2
  have H' := Aside0.mk H
  clear H
  go_enter Try.func58, Try.ntmps58
  go_wp2_with (first | ((with_reducible refine gate_dst (N := 1) rfl ?_); (try (refine gate_guard (by rfl) ?_; dsimp only)); refine box_event ?hg (N := 1) ?hd (cs := #[.slice A0_0 l0_0.length c0_0, .slice A0_1 l0_1.length c0_1]) (t := 25) ?hr ?_; (case hd => rfl); (case hg => rfl); (case hr => first | (go_simp; done) | (go_simp; rfl)); intro gb210 hg w5 hbox hb; have n0_ := Aside0.mk (below_step (by repeat (first | (with_reducible first | exact HB.out | apply below_alloc | apply pw_below_drewN | apply below_drew1) | exact HB.out)) hb); have n1_ := Aside0.mk (hbox); have n2_ := Aside0.mk ((by rw [hg]; exact (below_size (by repeat (first | (with_reducible first | exact HB.out | apply below_alloc | apply pw_below_drewN | apply below_drew1) | exact HB.out))) : w.heap.size ≤ gb210)); have n3_ := Aside0.mk ((by rw [hg]; exact (below_size (by repeat (first | (with_reducible first | exact HB.out | apply below_alloc | apply pw_below_drewN | apply below_drew1) | exact HB.out))) : w.heap.size ≤ gb210)); clear HB; have HB := n0_; have BK210 := n1_; have GW210 := n2_; have GE210 := n3_; clear n0_ n1_ n2_ n3_; clear hb hbox hg; have hcz6_0 : w5.cell? ⟨gb210, 0, none⟩ = some (.slice A0_0 l0_0.length c0_0) := (blk_cell BK210.out 0).trans rfl; have hcz6_1 : w5.cell? ⟨gb210, 1, none⟩ = some (.slice A0_1 l0_1.length c0_1) := (blk_cell BK210.out 1).trans rfl; have hfz6_0 := blk_frozen BK210.out 0; have hfz6_1 := blk_frozen BK210.out 1))
  repeat (go_quiet (first | ((with_reducible refine gate_dst (N := 1) rfl ?_); (try (refine gate_guard (by rfl) ?_; dsimp only)); refine box_event ?hg (N := 1) ?hd (cs := #[.slice A0_0 l0_0.length c0_0, .slice A0_1 l0_1.length c0_1]) (t := 25) ?hr ?_; (case hd => rfl); (case hg => rfl); (case hr => first | (go_simp; done) | (go_simp; rfl)); intro gb210 hg w5 hbox hb; have n0_ := Aside0.mk (below_step (by repeat (first | (with_reducible first | exact HB.out | apply below_alloc | apply pw_below_drewN | apply below_drew1) | exact HB.out)) hb); have n1_ := Aside0.mk (hbox); have n2_ := Aside0.mk ((by rw [hg]; exact (below_size (by repeat (first | (with_reducible first | exact HB.out | apply below_alloc | apply pw_below_drewN | apply below_drew1) | exact HB.out))) : w.heap.size ≤ gb210)); have n3_ := Aside0.mk ((by rw [hg]; exact (below_size (by repeat (first | (with_reducible first | exact HB.out | apply below_alloc | apply pw_below_drewN | apply below_drew1) | exact HB.out))) : w.heap.size ≤ gb210)); clear HB; have HB := n0_; have BK210 := n1_; have GW210 := n2_; have GE210 := n3_; clear n0_ n1_ n2_ n3_; clear hb hbox hg; have hcz6_0 : w5.cell? ⟨gb210, 0, none⟩ = some (.slice A0_0 l0_0.length c0_0) := (blk_cell BK210.out 0).trans rfl; have hcz6_1 : w5.cell? ⟨gb210, 1, none⟩ = some (.slice A0_1 l0_1.length c0_1) := (blk_cell BK210.out 1).trans rfl; have hfz6_0 := blk_frozen BK210.out 0; have hfz6_1 := blk_frozen BK210.out 1)); try go_wp2_with (first | ((with_reducible refine gate_dst (N := 1) rfl ?_); (try (refine gate_guard (by rfl) ?_; dsimp only)); refine box_event ?hg (N := 1) ?hd (cs := #[.slice A0_0 l0_0.length c0_0, .slice A0_1 l0_1.length c0_1]) (t := 25) ?hr ?_; (case hd => rfl); (case hg => rfl); (case hr => first | (go_simp; done) | (go_simp; rfl)); intro gb210 hg w5 hbox hb; have n0_ := Aside0.mk (below_step (by repeat (first | (with_reducible first | exact HB.out | apply below_alloc | apply pw_below_drewN | apply below_drew1) | exact HB.out)) hb); have n1_ := Aside0.mk (hbox); have n2_ := Aside0.mk ((by rw [hg]; exact (below_size (by repeat (first | (with_reducible first | exact HB.out | apply below_alloc | apply pw_below_drewN | apply below_drew1) | exact HB.out))) : w.heap.size ≤ gb210)); have n3_ := Aside0.mk ((by rw [hg]; exact (below_size (by repeat (first | (with_reducible first | exact HB.out | apply below_alloc | apply pw_below_drewN | apply below_drew1) | exact HB.out))) : w.heap.size ≤ gb210)); clear HB; have HB := n0_; have BK210 := n1_; have GW210 := n2_; have GE210 := n3_; clear n0_ n1_ n2_ n3_; clear hb hbox hg; have hcz6_0 : w5.cell? ⟨gb210, 0, none⟩ = some (.slice A0_0 l0_0.length c0_0) := (blk_cell BK210.out 0).trans rfl; have hcz6_1 : w5.cell? ⟨gb210, 1, none⟩ = some (.slice A0_1 l0_1.length c0_1) := (blk_cell BK210.out 1).trans rfl; have hfz6_0 := blk_frozen BK210.out 0; have hfz6_1 := blk_frozen BK210.out 1)))
  go_loopg [3] k (fun kq v3 w' => ∃ (x3_1 : Int), v3 = .int .i64 x3_1 ∧ Aside0 (signatoryref23_Check.l0 kq x3_1 l0_0 l0_1 = some r) ∧ Aside0 (kq ≤ k) ∧ Aside0 (w'.heap[gb210]? = some (.cells #[(.slice A0_0 l0_0.length c0_0), (.slice A0_1 l0_1.length c0_1)] 25 (0, 0))) ∧ Aside0 (Below w.heap.size w w'))
  case atStart => exact ⟨(0), (by first | rfl | (simp; done) | (simp [*]; done)), H', ⟨Nat.le_refl _⟩, ⟨by (with_reducible repeat (first | refine blk_drewN ?_ _ | refine blk_drew ?_ | refine blk_alloc ?_ _)); exact BK210.out⟩, ⟨by repeat (first | (with_reducible first | exact HB.out | apply below_alloc | apply pw_below_drewN | apply below_drew1 | refine below_set ?_ GE210.out) | exact HB.out)⟩⟩
  case round =>
   clear H'
   try clear c2
   try clear c2b0
   try clear c2b1
   try clear p2
   try clear c5
   try clear hcz4_0
   try clear hcz4_1
   try clear hcz6_0
   try clear hcz6_1
   try clear hfz4_0
   try clear hfz4_1
   try clear hfz6_0
   try clear hfz6_1
   obtain ⟨x3_1, rfl, HA, HK1, BK210, HB⟩ := hrel
   cases gk with
   | zero => exact absurd HA.out (by simp [signatoryref23_Check.l0])
   | succ k1 =>
    have H := HA.out
    clear HA
    simp only [signatoryref23_Check.l0] at H
    by_cases c7 : x3_1 < (l0_0.length : Int)
    ·rw [if_pos c7] at H
     have c7b0 : decide (x3_1 < (l0_0.length : Int)) = true := decide_eq_true c7
     clear c7
     by_cases c8 : 0 ≤ x3_1
     ·rw [if_pos c8] at H
      have c8b0 : decide (0 ≤ x3_1) = true := decide_eq_true c8
      clear c8
      by_cases c9 : ((rd_L1 l0_0 x3_1).length : Int) > 64
      ·rw [if_pos c9] at H
       have c9b0 : decide (64 < ((rd_L1 l0_0 x3_1).length : Int)) = true := decide_eq_true c9
       have c9b1 : decide (64 < (rd_L1 l0_0 x3_1).length) = true := decide_eq_true (by omega)
       clear c9
       obtain rfl := Option.some.inj H
       have hcz10_0 : wr.cell? ⟨gb210, 0, none⟩ = some (.slice A0_0 l0_0.length c0_0) := (blk_cell BK210.out 0).trans rfl
       have hcz10_1 : wr.cell? ⟨gb210, 1, none⟩ = some (.slice A0_1 l0_1.length c0_1) := (blk_cell BK210.out 1).trans rfl
       have hfz10_0 := blk_frozen BK210.out 0
       have hfz10_1 := blk_frozen BK210.out 1
       have p211 : 0 ≤ (x3_1 : Int) := of_decide_eq_true (by first | (with_reducible assumption) | assumption)
       have q211 : x3_1 < (l0_0.length : Int) := of_decide_eq_true (by first | (with_reducible assumption) | assumption)
       obtain ⟨ad211, A211_0, c211_0, e211, hx211_0, hl211_0, hi211_0⟩ := at_L1 HR0_0.out x3_1 p211 q211
       cases e211
       replace hx211_0 := (HB.out.cell (World.block_lt_of_cell? w _ hx211_0)).trans hx211_0
       have HR211_0 := Aside0.mk hi211_0
       have HC211_0 := Aside0.mk hl211_0
       clear hi211_0 hl211_0
       replace p211 := eq_true p211
       replace q211 := eq_true q211
       go_wp2
       repeat (go_quiet (fail); try go_wp2)
       go_ret
       exact ⟨by first | rfl | (simp [errW_none, errW_some] <;> rfl) | (simp [*, errW_none, errW_some] <;> rfl), by repeat (first | (with_reducible first | exact HB.out | apply below_alloc | apply pw_below_drewN | apply below_drew1 | refine below_set ?_ GE210.out) | exact HB.out)⟩
      ·rw [if_neg c9] at H
       have c9b0 : decide (64 < ((rd_L1 l0_0 x3_1).length : Int)) = false := decide_eq_false c9
       have c9b1 : decide (64 < (rd_L1 l0_0 x3_1).length) = false := decide_eq_false (by omega)
       clear c9
       have H' := Aside0.mk H
       clear H
       have hcz11_0 : wr.cell? ⟨gb210, 0, none⟩ = some (.slice A0_0 l0_0.length c0_0) := (blk_cell BK210.out 0).trans rfl
       have hcz11_1 : wr.cell? ⟨gb210, 1, none⟩ = some (.slice A0_1 l0_1.length c0_1) := (blk_cell BK210.out 1).trans rfl
       have hfz11_0 := blk_frozen BK210.out 0
       have hfz11_1 := blk_frozen BK210.out 1
       have p211 : 0 ≤ (x3_1 : Int) := of_decide_eq_true (by first | (with_reducible assumption) | assumption)
       have q211 : x3_1 < (l0_0.length : Int) := of_decide_eq_true (by first | (with_reducible assumption) | assumption)
       obtain ⟨ad211, A211_0, c211_0, e211, hx211_0, hl211_0, hi211_0⟩ := at_L1 HR0_0.out x3_1 p211 q211
       cases e211
       replace hx211_0 := (HB.out.cell (World.block_lt_of_cell? w _ hx211_0)).trans hx211_0
       have HR211_0 := Aside0.mk hi211_0
       have HC211_0 := Aside0.mk hl211_0
       clear hi211_0 hl211_0
       replace p211 := eq_true p211
       replace q211 := eq_true q211
       go_wp2
       repeat (go_quiet (fail); try go_wp2)
       go_roundg k1
       case measure => have := HK1.out; omega
       case rel => exact ⟨(wrap64 (x3_1 + 1)), (by first | rfl | (simp; done) | (simp [*]; done)), H', ⟨by have := HK1.out; omega⟩, ⟨by (with_reducible repeat (first | refine blk_drewN ?_ _ | refine blk_drew ?_ | refine blk_alloc ?_ _)); exact BK210.out⟩, ⟨by repeat (first | (with_reducible first | exact HB.out | apply below_alloc | apply pw_below_drewN | apply below_drew1 | refine below_set ?_ GE210.out) | exact HB.out)⟩⟩
     ·rw [if_neg c8] at H
      exact absurd H (by simp)
    ·rw [if_neg c7] at H
     have c7b0 : decide (x3_1 < (l0_0.length : Int)) = false := decide_eq_false c7
     clear c7
     by_cases c12 : (l0_0.length : Int) = (l0_1.length : Int)
     ·rw [if_pos c12] at H
      have c12b0 : ((l0_0.length : Int) == (l0_1.length : Int)) = true := beq_iff_eq.mpr c12
      have c12b1 : ((l0_0.length : Int) != (l0_1.length : Int)) = false := bne_eq_false_iff_eq.mpr c12
      have c12b2 : (l0_0.length == l0_1.length) = true := by first | simpa using c12 | (simp at c12 ⊢; omega)
      clear c12
      have H' := Aside0.mk H
      clear H
      have hcz13_0 : wr.cell? ⟨gb210, 0, none⟩ = some (.slice A0_0 l0_0.length c0_0) := (blk_cell BK210.out 0).trans rfl
      have hcz13_1 : wr.cell? ⟨gb210, 1, none⟩ = some (.slice A0_1 l0_1.length c0_1) := (blk_cell BK210.out 1).trans rfl
      have hfz13_0 := blk_frozen BK210.out 0
      have hfz13_1 := blk_frozen BK210.out 1
      go_wp2
      repeat (go_quiet (fail); try go_wp2)
      go_loopg [4] k1 (fun kq v4 w' => ∃ (x4_2 : Int), v4 = .int .i64 x4_2 ∧ Aside0 (signatoryref23_Check.l1 kq x4_2 l0_0 l0_1 = some r) ∧ Aside0 (kq ≤ k1) ∧ Aside0 (w'.heap[gb210]? = some (.cells #[(.slice A0_0 l0_0.length c0_0), (.slice A0_1 l0_1.length c0_1)] 25 (0, 0))) ∧ Aside0 (Below w.heap.size w w'))
      case atStart => exact ⟨(0), (by first | rfl | (simp; done) | (simp [*]; done)), H', ⟨Nat.le_refl _⟩, ⟨by (with_reducible repeat (first | refine blk_drewN ?_ _ | refine blk_drew ?_ | refine blk_alloc ?_ _)); exact BK210.out⟩, ⟨by repeat (first | (with_reducible first | exact HB.out | apply below_alloc | apply pw_below_drewN | apply below_drew1 | refine below_set ?_ GE210.out) | exact HB.out)⟩⟩
      case round =>
       clear H'
       try clear c1
       try clear c2
       try clear c2b0
       try clear c2b1
       try clear p2
       try clear q2
       try clear hx2
       try clear c5
       try clear p6
       try clear c7
       try clear c7b0
       try clear c8
       try clear c8b0
       try clear c9
       try clear c9b0
       try clear c9b1
       try clear c12
       try clear c12b0
       try clear c12b1
       try clear c12b2
       try clear hcz10_0
       try clear hcz10_1
       try clear hcz11_0
       try clear hcz11_1
       try clear hcz13_0
       try clear hcz13_1
       try clear hcz4_0
       try clear hcz4_1
       try clear hcz6_0
       try clear hcz6_1
       try clear hfz10_0
       try clear hfz10_1
       try clear hfz11_0
       try clear hfz11_1
       try clear hfz13_0
       try clear hfz13_1
       try clear hfz4_0
       try clear hfz4_1
       try clear hfz6_0
       try clear hfz6_1
       try clear hx211_0
       try clear p2
       try clear p211
       try clear q211
       obtain ⟨x4_2, rfl, HA, HK2, BK210, HB⟩ := hrel
       cases gk with
       | zero => exact absurd HA.out (by simp [signatoryref23_Check.l1])
       | succ k2 =>
        have H := HA.out
        clear HA
        simp only [signatoryref23_Check.l1] at H
        by_cases c14 : x4_2 < (l0_0.length : Int)
        ·rw [if_pos c14] at H
         have c14b0 : decide (x4_2 < (l0_0.length : Int)) = true := decide_eq_true c14
         clear c14
         have HC15 := Aside0.mk H
         clear H
         have hcz16_0 : wr.cell? ⟨gb210, 0, none⟩ = some (.slice A0_0 l0_0.length c0_0) := (blk_cell BK210.out 0).trans rfl
         have hcz16_1 : wr.cell? ⟨gb210, 1, none⟩ = some (.slice A0_1 l0_1.length c0_1) := (blk_cell BK210.out 1).trans rfl
         have hfz16_0 := blk_frozen BK210.out 0
         have hfz16_1 := blk_frozen BK210.out 1
         go_upto_region 13 with (fail)
         repeat (go_quiet (fail); go_upto_region 13 with (fail))
         go_cut [74] (fun v74 wc => ∃ (kq : Nat) (x74_14 : Bool), v74 = .bool x74_14 ∧ Aside0 (signatoryref23_Check.j2 kq x4_2 x74_14 l0_0 l0_1 = some r) ∧ Aside0 (kq ≤ k2) ∧ Aside0 (wc.heap[gb210]? = some (.cells #[(.slice A0_0 l0_0.length c0_0), (.slice A0_1 l0_1.length c0_1)] 25 (0, 0))) ∧ Aside0 (Below w.heap.size w wc))
         case first =>
          have H := HC15.out
          clear HC15
          by_cases c17 : 0 ≤ x4_2
          ·rw [if_pos c17] at H
           have c17b0 : decide (0 ≤ x4_2) = true := decide_eq_true c17
           clear c17
           (first | rw [c17b0] | (simp only [i64_w, i32_w]; rw [c17b0]) | skip)
           by_cases c18 : ((rd_L1 l0_0 x4_2).length : Int) < 1
           ·rw [if_pos c18] at H
            have c18b0 : decide (((rd_L1 l0_0 x4_2).length : Int) < 1) = true := decide_eq_true c18
            have c18b1 : decide ((rd_L1 l0_0 x4_2).length < 1) = true := decide_eq_true (by omega)
            clear c18
            have H' := Aside0.mk H
            clear H
            have hcz19_0 : wr.cell? ⟨gb210, 0, none⟩ = some (.slice A0_0 l0_0.length c0_0) := (blk_cell BK210.out 0).trans rfl
            have hcz19_1 : wr.cell? ⟨gb210, 1, none⟩ = some (.slice A0_1 l0_1.length c0_1) := (blk_cell BK210.out 1).trans rfl
            have hfz19_0 := blk_frozen BK210.out 0
            have hfz19_1 := blk_frozen BK210.out 1
            have p212 : 0 ≤ (x4_2 : Int) := of_decide_eq_true (by first | (with_reducible assumption) | assumption)
            have q212 : x4_2 < (l0_0.length : Int) := of_decide_eq_true (by first | (with_reducible assumption) | assumption)
            obtain ⟨ad212, A212_0, c212_0, e212, hx212_0, hl212_0, hi212_0⟩ := at_L1 HR0_0.out x4_2 p212 q212
            cases e212
            replace hx212_0 := (HB.out.cell (World.block_lt_of_cell? w _ hx212_0)).trans hx212_0
            have HR212_0 := Aside0.mk hi212_0
            have HC212_0 := Aside0.mk hl212_0
            clear hi212_0 hl212_0
            replace p212 := eq_true p212
            replace q212 := eq_true q212
            go_wp2
            repeat (go_quiet (fail); try go_wp2)
            go_meet
            case rel => exact ⟨_, (true), (by first | rfl | (simp; done) | (simp [*]; done)), H', ⟨by have := HK1.out; have := HK2.out; first | omega | exact Nat.le_refl _⟩, ⟨by (with_reducible repeat (first | refine blk_drewN ?_ _ | refine blk_drew ?_ | refine blk_alloc ?_ _)); exact BK210.out⟩, ⟨by repeat (first | (with_reducible first | exact HB.out | apply below_alloc | apply pw_below_drewN | apply below_drew1 | refine below_set ?_ GE210.out) | exact HB.out)⟩⟩
           ·rw [if_neg c18] at H
            have c18b0 : decide (((rd_L1 l0_0 x4_2).length : Int) < 1) = false := decide_eq_false c18
            have c18b1 : decide ((rd_L1 l0_0 x4_2).length < 1) = false := decide_eq_false (by omega)
            clear c18
            by_cases c20 : 0 < (l0_0.length : Int)
            ·rw [if_pos c20] at H
             have c20b0 : decide (0 < (l0_0.length : Int)) = true := decide_eq_true c20
             have c20b1 : decide (0 < l0_0.length) = true := decide_eq_true (by omega)
             clear c20
             by_cases c21 : ((rd_L1 l0_0 x4_2).length : Int) = ((rd_L1 l0_0 0).length : Int)
             ·rw [if_pos c21] at H
              have c21b0 : (((rd_L1 l0_0 x4_2).length : Int) == ((rd_L1 l0_0 0).length : Int)) = true := beq_iff_eq.mpr c21
              have c21b1 : (((rd_L1 l0_0 x4_2).length : Int) != ((rd_L1 l0_0 0).length : Int)) = false := bne_eq_false_iff_eq.mpr c21
              have c21b2 : ((rd_L1 l0_0 x4_2).length == (rd_L1 l0_0 0).length) = true := by first | simpa using c21 | (simp at c21 ⊢; omega)
              clear c21
              by_cases c22 : x4_2 < (l0_1.length : Int)
              ·rw [if_pos c22] at H
               have c22b0 : decide (x4_2 < (l0_1.length : Int)) = true := decide_eq_true c22
               clear c22
               by_cases c23 : (rd l0_1 x4_2) < 0
               ·rw [if_pos c23] at H
                have c23b0 : decide ((rd l0_1 x4_2) < 0) = true := decide_eq_true c23
                clear c23
                have H' := Aside0.mk H
                clear H
                have hcz24_0 : wr.cell? ⟨gb210, 0, none⟩ = some (.slice A0_0 l0_0.length c0_0) := (blk_cell BK210.out 0).trans rfl
                have hcz24_1 : wr.cell? ⟨gb210, 1, none⟩ = some (.slice A0_1 l0_1.length c0_1) := (blk_cell BK210.out 1).trans rfl
                have hfz24_0 := blk_frozen BK210.out 0
                have hfz24_1 := blk_frozen BK210.out 1
                have p212 : 0 ≤ (x4_2 : Int) := of_decide_eq_true (by first | (with_reducible assumption) | assumption)
                have q212 : x4_2 < (l0_0.length : Int) := of_decide_eq_true (by first | (with_reducible assumption) | assumption)
                obtain ⟨ad212, A212_0, c212_0, e212, hx212_0, hl212_0, hi212_0⟩ := at_L1 HR0_0.out x4_2 p212 q212
                cases e212
                replace hx212_0 := (HB.out.cell (World.block_lt_of_cell? w _ hx212_0)).trans hx212_0
                have HR212_0 := Aside0.mk hi212_0
                have HC212_0 := Aside0.mk hl212_0
                clear hi212_0 hl212_0
                replace p212 := eq_true p212
                replace q212 := eq_true q212
                have p213 : 0 ≤ (x4_2 : Int) := of_decide_eq_true (by first | (with_reducible assumption) | assumption)
                have q213 : x4_2 < (l0_0.length : Int) := of_decide_eq_true (by first | (with_reducible assumption) | assumption)
                obtain ⟨ad213, A213_0, c213_0, e213, hx213_0, hl213_0, hi213_0⟩ := at_L1 HR0_0.out x4_2 p213 q213
                obtain rfl : ad212 = ad213 := (by injection e213)
                replace hx213_0 := (HB.out.cell (World.block_lt_of_cell? w _ hx213_0)).trans hx213_0
                have HR213_0 := Aside0.mk hi213_0
                have HC213_0 := Aside0.mk hl213_0
                clear hi213_0 hl213_0
                replace p213 := eq_true p213
                replace q213 := eq_true q213
                have ea_ := Option.some.inj (hx212_0.symm.trans hx213_0)
                injection ea_ with ea_ en_ ec_
                subst ea_
                subst ec_
                clear en_
                have p214 : 0 ≤ (0 : Int) := (by omega)
                have q214 : 0 < (l0_0.length : Int) := of_decide_eq_true (by first | (with_reducible assumption) | assumption)
                obtain ⟨ad214, A214_0, c214_0, e214, hx214_0, hl214_0, hi214_0⟩ := at_L1 HR0_0.out 0 p214 q214
                obtain rfl : ad212 = ad214 := (by injection e214)
                have qi214 : (0 < l0_0.length) = True := eq_true (by omega)
                (try rw [show ((0 : Int)).toNat = 0 from rfl] at hx214_0)
                (try rw [Addr.add_zero'] at hx214_0)
                replace hx214_0 := (HB.out.cell (World.block_lt_of_cell? w _ hx214_0)).trans hx214_0
                have HR214_0 := Aside0.mk hi214_0
                have HC214_0 := Aside0.mk hl214_0
                clear hi214_0 hl214_0
                replace p214 := eq_true p214
                replace q214 := eq_true q214
                have p215 : 0 ≤ (x4_2 : Int) := of_decide_eq_true (by first | (with_reducible assumption) | assumption)
                have q215 : x4_2 < (l0_1.length : Int) := of_decide_eq_true (by first | (with_reducible assumption) | assumption)
                obtain ⟨ad215, e215, hx215_0⟩ := Kd.at_int HR0_1.out x4_2 p215 q215
                cases e215
                replace hx215_0 := (HB.out.cell (World.block_lt_of_cell? w _ hx215_0)).trans hx215_0
                replace p215 := eq_true p215
                replace q215 := eq_true q215
                go_wp2
                repeat (go_quiet (fail); try go_wp2)
                go_meet
                case rel => exact ⟨_, (true), (by first | rfl | (simp; done) | (simp [*]; done)), H', ⟨by have := HK1.out; have := HK2.out; first | omega | exact Nat.le_refl _⟩, ⟨by (with_reducible repeat (first | refine blk_drewN ?_ _ | refine blk_drew ?_ | refine blk_alloc ?_ _)); exact BK210.out⟩, ⟨by repeat (first | (with_reducible first | exact HB.out | apply below_alloc | apply pw_below_drewN | apply below_drew1 | refine below_set ?_ GE210.out) | exact HB.out)⟩⟩
               ·rw [if_neg c23] at H
                have c23b0 : decide ((rd l0_1 x4_2) < 0) = false := decide_eq_false c23
                clear c23
                have H' := Aside0.mk H
                clear H
                have hcz25_0 : wr.cell? ⟨gb210, 0, none⟩ = some (.slice A0_0 l0_0.length c0_0) := (blk_cell BK210.out 0).trans rfl
                have hcz25_1 : wr.cell? ⟨gb210, 1, none⟩ = some (.slice A0_1 l0_1.length c0_1) := (blk_cell BK210.out 1).trans rfl
                have hfz25_0 := blk_frozen BK210.out 0
                have hfz25_1 := blk_frozen BK210.out 1
                have p212 : 0 ≤ (x4_2 : Int) := of_decide_eq_true (by first | (with_reducible assumption) | assumption)
                have q212 : x4_2 < (l0_0.length : Int) := of_decide_eq_true (by first | (with_reducible assumption) | assumption)
                obtain ⟨ad212, A212_0, c212_0, e212, hx212_0, hl212_0, hi212_0⟩ := at_L1 HR0_0.out x4_2 p212 q212
                cases e212
                replace hx212_0 := (HB.out.cell (World.block_lt_of_cell? w _ hx212_0)).trans hx212_0
                have HR212_0 := Aside0.mk hi212_0
                have HC212_0 := Aside0.mk hl212_0
                clear hi212_0 hl212_0
                replace p212 := eq_true p212
                replace q212 := eq_true q212
                have p213 : 0 ≤ (x4_2 : Int) := of_decide_eq_true (by first | (with_reducible assumption) | assumption)
                have q213 : x4_2 < (l0_0.length : Int) := of_decide_eq_true (by first | (with_reducible assumption) | assumption)
                obtain ⟨ad213, A213_0, c213_0, e213, hx213_0, hl213_0, hi213_0⟩ := at_L1 HR0_0.out x4_2 p213 q213
                obtain rfl : ad212 = ad213 := (by injection e213)
                replace hx213_0 := (HB.out.cell (World.block_lt_of_cell? w _ hx213_0)).trans hx213_0
                have HR213_0 := Aside0.mk hi213_0
                have HC213_0 := Aside0.mk hl213_0
                clear hi213_0 hl213_0
                replace p213 := eq_true p213
                replace q213 := eq_true q213
                have ea_ := Option.some.inj (hx212_0.symm.trans hx213_0)
                injection ea_ with ea_ en_ ec_
                subst ea_
                subst ec_
                clear en_
                have p214 : 0 ≤ (0 : Int) := (by omega)
                have q214 : 0 < (l0_0.length : Int) := of_decide_eq_true (by first | (with_reducible assumption) | assumption)
                obtain ⟨ad214, A214_0, c214_0, e214, hx214_0, hl214_0, hi214_0⟩ := at_L1 HR0_0.out 0 p214 q214
                obtain rfl : ad212 = ad214 := (by injection e214)
                have qi214 : (0 < l0_0.length) = True := eq_true (by omega)
                (try rw [show ((0 : Int)).toNat = 0 from rfl] at hx214_0)
                (try rw [Addr.add_zero'] at hx214_0)
                replace hx214_0 := (HB.out.cell (World.block_lt_of_cell? w _ hx214_0)).trans hx214_0
                have HR214_0 := Aside0.mk hi214_0
                have HC214_0 := Aside0.mk hl214_0
                clear hi214_0 hl214_0
                replace p214 := eq_true p214
                replace q214 := eq_true q214
                have p215 : 0 ≤ (x4_2 : Int) := of_decide_eq_true (by first | (with_reducible assumption) | assumption)
                have q215 : x4_2 < (l0_1.length : Int) := of_decide_eq_true (by first | (with_reducible assumption) | assumption)
                obtain ⟨ad215, e215, hx215_0⟩ := Kd.at_int HR0_1.out x4_2 p215 q215
                cases e215
                replace hx215_0 := (HB.out.cell (World.block_lt_of_cell? w _ hx215_0)).trans hx215_0
                replace p215 := eq_true p215
                replace q215 := eq_true q215
                have p216 : 0 ≤ (x4_2 : Int) := of_decide_eq_true (by first | (with_reducible assumption) | assumption)
                have q216 : x4_2 < (l0_1.length : Int) := of_decide_eq_true (by first | (with_reducible assumption) | assumption)
                obtain ⟨ad216, e216, hx216_0⟩ := Kd.at_int HR0_1.out x4_2 p216 q216
                obtain rfl : ad215 = ad216 := (by injection e216)
                replace hx216_0 := (HB.out.cell (World.block_lt_of_cell? w _ hx216_0)).trans hx216_0
                replace p216 := eq_true p216
                replace q216 := eq_true q216
                go_wp2
                repeat (go_quiet (fail); try go_wp2)
                go_meet
                case rel => exact ⟨_, (decide ((rd l0_1 x4_2) ≥ 64)), (by first | rfl | (simp; done) | (simp [*]; done)), H', ⟨by have := HK1.out; have := HK2.out; first | omega | exact Nat.le_refl _⟩, ⟨by (with_reducible repeat (first | refine blk_drewN ?_ _ | refine blk_drew ?_ | refine blk_alloc ?_ _)); exact BK210.out⟩, ⟨by repeat (first | (with_reducible first | exact HB.out | apply below_alloc | apply pw_below_drewN | apply below_drew1 | refine below_set ?_ GE210.out) | exact HB.out)⟩⟩
              ·rw [if_neg c22] at H
               exact absurd H (by simp)
             ·rw [if_neg c21] at H
              have c21b0 : (((rd_L1 l0_0 x4_2).length : Int) == ((rd_L1 l0_0 0).length : Int)) = false := beq_eq_false_iff_ne.mpr c21
              have c21b1 : (((rd_L1 l0_0 x4_2).length : Int) != ((rd_L1 l0_0 0).length : Int)) = true := bne_iff_ne.mpr c21
              have c21b2 : ((rd_L1 l0_0 x4_2).length == (rd_L1 l0_0 0).length) = false := by first | simpa using c21 | (simp at c21 ⊢; omega)
              have H' := Aside0.mk H
              clear H
              have hcz26_0 : wr.cell? ⟨gb210, 0, none⟩ = some (.slice A0_0 l0_0.length c0_0) := (blk_cell BK210.out 0).trans rfl
              have hcz26_1 : wr.cell? ⟨gb210, 1, none⟩ = some (.slice A0_1 l0_1.length c0_1) := (blk_cell BK210.out 1).trans rfl
              have hfz26_0 := blk_frozen BK210.out 0
              have hfz26_1 := blk_frozen BK210.out 1
              have p212 : 0 ≤ (x4_2 : Int) := of_decide_eq_true (by first | (with_reducible assumption) | assumption)
              have q212 : x4_2 < (l0_0.length : Int) := of_decide_eq_true (by first | (with_reducible assumption) | assumption)
              obtain ⟨ad212, A212_0, c212_0, e212, hx212_0, hl212_0, hi212_0⟩ := at_L1 HR0_0.out x4_2 p212 q212
              cases e212
              replace hx212_0 := (HB.out.cell (World.block_lt_of_cell? w _ hx212_0)).trans hx212_0
              have HR212_0 := Aside0.mk hi212_0
              have HC212_0 := Aside0.mk hl212_0
              clear hi212_0 hl212_0
              replace p212 := eq_true p212
              replace q212 := eq_true q212
              have p213 : 0 ≤ (x4_2 : Int) := of_decide_eq_true (by first | (with_reducible assumption) | assumption)
              have q213 : x4_2 < (l0_0.length : Int) := of_decide_eq_true (by first | (with_reducible assumption) | assumption)
              obtain ⟨ad213, A213_0, c213_0, e213, hx213_0, hl213_0, hi213_0⟩ := at_L1 HR0_0.out x4_2 p213 q213
              obtain rfl : ad212 = ad213 := (by injection e213)
              replace hx213_0 := (HB.out.cell (World.block_lt_of_cell? w _ hx213_0)).trans hx213_0
              have HR213_0 := Aside0.mk hi213_0
              have HC213_0 := Aside0.mk hl213_0
              clear hi213_0 hl213_0
              replace p213 := eq_true p213
              replace q213 := eq_true q213
              have ea_ := Option.some.inj (hx212_0.symm.trans hx213_0)
              injection ea_ with ea_ en_ ec_
              subst ea_
              subst ec_
              clear en_
              have p214 : 0 ≤ (0 : Int) := (by omega)
              have q214 : 0 < (l0_0.length : Int) := of_decide_eq_true (by first | (with_reducible assumption) | assumption)
              obtain ⟨ad214, A214_0, c214_0, e214, hx214_0, hl214_0, hi214_0⟩ := at_L1 HR0_0.out 0 p214 q214
              obtain rfl : ad212 = ad214 := (by injection e214)
              have qi214 : (0 < l0_0.length) = True := eq_true (by omega)
              (try rw [show ((0 : Int)).toNat = 0 from rfl] at hx214_0)
              (try rw [Addr.add_zero'] at hx214_0)
              replace hx214_0 := (HB.out.cell (World.block_lt_of_cell? w _ hx214_0)).trans hx214_0
              have HR214_0 := Aside0.mk hi214_0
              have HC214_0 := Aside0.mk hl214_0
              clear hi214_0 hl214_0
              replace p214 := eq_true p214
              replace q214 := eq_true q214
              go_wp2
              repeat (go_quiet (fail); try go_wp2)
              go_meet
              case rel => exact ⟨_, (true), (by first | rfl | (simp; done) | (simp [*]; done)), H', ⟨by have := HK1.out; have := HK2.out; first | omega | exact Nat.le_refl _⟩, ⟨by (with_reducible repeat (first | refine blk_drewN ?_ _ | refine blk_drew ?_ | refine blk_alloc ?_ _)); exact BK210.out⟩, ⟨by repeat (first | (with_reducible first | exact HB.out | apply below_alloc | apply pw_below_drewN | apply below_drew1 | refine below_set ?_ GE210.out) | exact HB.out)⟩⟩
            ·rw [if_neg c20] at H
             exact absurd H (by simp)
          ·rw [if_neg c17] at H
           exact absurd H (by simp)
         case rest =>
          clear HC15
          try clear c1
          try clear c2
          try clear c2b0
          try clear c2b1
          try clear p2
          try clear q2
          try clear hx2
          try clear qi2
          try clear c5
          try clear p6
          try clear c7
          try clear c7b0
          try clear c8
          try clear c8b0
          try clear c9
          try clear c9b0
          try clear c9b1
          try clear c12
          try clear c12b0
          try clear c12b1
          try clear c12b2
          try clear c14
          try clear c14b0
          try clear c17
          try clear c17b0
          try clear c18
          try clear c18b0
          try clear c18b1
          try clear c20
          try clear c20b0
          try clear c20b1
          try clear c21
          try clear c21b0
          try clear c21b1
          try clear c21b2
          try clear p21
          try clear q21
          try clear hx21
          try clear qi21
          try clear c22
          try clear c22b0
          try clear c23
          try clear c23b0
          try clear hcz10_0
          try clear hcz10_1
          try clear hcz11_0
          try clear hcz11_1
          try clear hcz13_0
          try clear hcz13_1
          try clear hcz16_0
          try clear hcz16_1
          try clear hcz19_0
          try clear hcz19_1
          try clear hcz24_0
          try clear hcz24_1
          try clear hcz25_0
          try clear hcz25_1
          try clear hcz26_0
          try clear hcz26_1
          try clear hcz4_0
          try clear hcz4_1
          try clear hcz6_0
          try clear hcz6_1
          try clear hfz10_0
          try clear hfz10_1
          try clear hfz11_0
          try clear hfz11_1
          try clear hfz13_0
          try clear hfz13_1
          try clear hfz16_0
          try clear hfz16_1
          try clear hfz19_0
          try clear hfz19_1
          try clear hfz24_0
          try clear hfz24_1
          try clear hfz25_0
          try clear hfz25_1
          try clear hfz26_0
          try clear hfz26_1
          try clear hfz4_0
          try clear hfz4_1
          try clear hfz6_0
          try clear hfz6_1
          try clear hx211_0
          try clear hx212_0
          try clear hx213_0
          try clear hx214_0
          try clear hx215_0
          try clear hx216_0
          try clear p2
          try clear p211
          try clear p212
          try clear p213
          try clear p214
          try clear p215
          try clear p216
          try clear p6
          try clear q2
          try clear q211
          try clear q212
          try clear q213
          try clear q214
          try clear q215
          try clear q216
          obtain ⟨kq, x74_14, rfl, HA, HJ14, BK210, HB⟩ := hcut
          cases kq with
          | zero => exact absurd HA.out (by simp [signatoryref23_Check.j2])
          | succ kj14 =>
           have H := HA.out
           clear HA
           simp only [signatoryref23_Check.j2] at H
           by_cases c27 : x74_14 = true
           ·subst c27
            have H1 : (some 230) = some r := by rw [if_pos rfl] at H; exact H
            clear H
            have H := H1
            clear H1
            obtain rfl := Option.some.inj H
            go_wp2
            repeat (go_quiet (fail); try go_wp2)
            go_ret
            exact ⟨by first | rfl | (simp [errW_none, errW_some] <;> rfl) | (simp [*, errW_none, errW_some] <;> rfl), by repeat (first | (with_reducible first | exact HB.out | apply below_alloc | apply pw_below_drewN | apply below_drew1 | refine below_set ?_ GE210.out) | exact HB.out)⟩
           ·replace c27 := Bool.eq_false_iff.mpr c27
            subst c27
            have H1 : (signatoryref23_Check.l2 kj14 x4_2 0 l0_0 l0_1) = some r := by rw [if_neg (show ¬ (false = true) by decide)] at H; exact H
            clear H
            have H := H1
            clear H1
            have H' := Aside0.mk H
            clear H
            go_wp2
            repeat (go_quiet (fail); try go_wp2)
            go_loopg [5] kj14 (fun kq v5 w' => ∃ (x5_4 : Int), v5 = .int .i64 x5_4 ∧ Aside0 (signatoryref23_Check.l2 kq x4_2 x5_4 l0_0 l0_1 = some r) ∧ Aside0 (kq ≤ kj14) ∧ Aside0 (w'.heap[gb210]? = some (.cells #[(.slice A0_0 l0_0.length c0_0), (.slice A0_1 l0_1.length c0_1)] 25 (0, 0))) ∧ Aside0 (Below w.heap.size w w'))
            case atStart => exact ⟨(0), (by first | rfl | (simp; done) | (simp [*]; done)), H', ⟨Nat.le_refl _⟩, ⟨by (with_reducible repeat (first | refine blk_drewN ?_ _ | refine blk_drew ?_ | refine blk_alloc ?_ _)); exact BK210.out⟩, ⟨by repeat (first | (with_reducible first | exact HB.out | apply below_alloc | apply pw_below_drewN | apply below_drew1 | refine below_set ?_ GE210.out) | exact HB.out)⟩⟩
            case round =>
             clear H'
             try clear c1
             try clear c2
             try clear c2b0
             try clear c2b1
             try clear p2
             try clear q2
             try clear hx2
             try clear qi2
             try clear c5
             try clear p6
             try clear c7
             try clear c7b0
             try clear c8
             try clear c8b0
             try clear c9
             try clear c9b0
             try clear c9b1
             try clear c12
             try clear c12b0
             try clear c12b1
             try clear c12b2
             try clear c14
             try clear c14b0
             try clear c17
             try clear c17b0
             try clear c18
             try clear c18b0
             try clear c18b1
             try clear c20
             try clear c20b0
             try clear c20b1
             try clear c21
             try clear c21b0
             try clear c21b1
             try clear c21b2
             try clear p21
             try clear q21
             try clear hx21
             try clear qi21
             try clear c22
             try clear c22b0
             try clear c23
             try clear c23b0
             try clear c27
             try clear hcz10_0
             try clear hcz10_1
             try clear hcz11_0
             try clear hcz11_1
             try clear hcz13_0
             try clear hcz13_1
             try clear hcz16_0
             try clear hcz16_1
             try clear hcz19_0
             try clear hcz19_1
             try clear hcz24_0
             try clear hcz24_1
             try clear hcz25_0
             try clear hcz25_1
             try clear hcz26_0
             try clear hcz26_1
             try clear hcz4_0
             try clear hcz4_1
             try clear hcz6_0
             try clear hcz6_1
             try clear hfz10_0
             try clear hfz10_1
             try clear hfz11_0
             try clear hfz11_1
             try clear hfz13_0
             try clear hfz13_1
             try clear hfz16_0
             try clear hfz16_1
             try clear hfz19_0
             try clear hfz19_1
             try clear hfz24_0
             try clear hfz24_1
             try clear hfz25_0
             try clear hfz25_1
             try clear hfz26_0
             try clear hfz26_1
             try clear hfz4_0
             try clear hfz4_1
             try clear hfz6_0
             try clear hfz6_1
             try clear hx211_0
             try clear hx212_0
             try clear hx213_0
             try clear hx214_0
             try clear hx215_0
             try clear hx216_0
             try clear p2
             try clear p21
             try clear p211
             try clear p212
             try clear p213
             try clear p214
             try clear p215
             try clear p216
             try clear p6
             try clear q2
             try clear q21
             try clear q211
             try clear q212
             try clear q213
             try clear q214
             try clear q215
             try clear q216
             obtain ⟨x5_4, rfl, HA, HK4, BK210, HB⟩ := hrel
             cases gk with
             | zero => exact absurd HA.out (by simp [signatoryref23_Check.l2])
             | succ k4 =>
              have H := HA.out
              clear HA
              simp only [signatoryref23_Check.l2] at H
              by_cases c28 : 0 ≤ x4_2
              ·rw [if_pos c28] at H
               have c28b0 : decide (0 ≤ x4_2) = true := decide_eq_true c28
               clear c28
               by_cases c29 : x4_2 < (l0_0.length : Int)
               ·rw [if_pos c29] at H
                have c29b0 : decide (x4_2 < (l0_0.length : Int)) = true := decide_eq_true c29
                clear c29
                by_cases c30 : x5_4 < ((rd_L1 l0_0 x4_2).length : Int)
                ·rw [if_pos c30] at H
                 have c30b0 : decide (x5_4 < ((rd_L1 l0_0 x4_2).length : Int)) = true := decide_eq_true c30
                 clear c30
                 by_cases c31 : 0 ≤ x5_4
                 ·rw [if_pos c31] at H
                  have c31b0 : decide (0 ≤ x5_4) = true := decide_eq_true c31
                  clear c31
                  by_cases c32 : (rd (rd_L1 l0_0 x4_2) x5_4) < 0
                  ·rw [if_pos c32] at H
                   have c32b0 : decide ((rd (rd_L1 l0_0 x4_2) x5_4) < 0) = true := decide_eq_true c32
                   clear c32
                   obtain rfl := Option.some.inj H
                   have hcz33_0 : wr.cell? ⟨gb210, 0, none⟩ = some (.slice A0_0 l0_0.length c0_0) := (blk_cell BK210.out 0).trans rfl
                   have hcz33_1 : wr.cell? ⟨gb210, 1, none⟩ = some (.slice A0_1 l0_1.length c0_1) := (blk_cell BK210.out 1).trans rfl
                   have hfz33_0 := blk_frozen BK210.out 0
                   have hfz33_1 := blk_frozen BK210.out 1
                   have p217 : 0 ≤ (x4_2 : Int) := of_decide_eq_true (by first | (with_reducible assumption) | assumption)
                   have q217 : x4_2 < (l0_0.length : Int) := of_decide_eq_true (by first | (with_reducible assumption) | assumption)
                   obtain ⟨ad217, A217_0, c217_0, e217, hx217_0, hl217_0, hi217_0⟩ := at_L1 HR0_0.out x4_2 p217 q217
                   cases e217
                   replace hx217_0 := (HB.out.cell (World.block_lt_of_cell? w _ hx217_0)).trans hx217_0
                   have HR217_0 := Aside0.mk hi217_0
                   have HC217_0 := Aside0.mk hl217_0
                   clear hi217_0 hl217_0
                   replace p217 := eq_true p217
                   replace q217 := eq_true q217
                   have p218 : 0 ≤ (x4_2 : Int) := of_decide_eq_true (by first | (with_reducible assumption) | assumption)
                   have q218 : x4_2 < (l0_0.length : Int) := of_decide_eq_true (by first | (with_reducible assumption) | assumption)
                   obtain ⟨ad218, A218_0, c218_0, e218, hx218_0, hl218_0, hi218_0⟩ := at_L1 HR0_0.out x4_2 p218 q218
                   obtain rfl : ad217 = ad218 := (by injection e218)
                   replace hx218_0 := (HB.out.cell (World.block_lt_of_cell? w _ hx218_0)).trans hx218_0
                   have HR218_0 := Aside0.mk hi218_0
                   have HC218_0 := Aside0.mk hl218_0
                   clear hi218_0 hl218_0
                   replace p218 := eq_true p218
                   replace q218 := eq_true q218
                   have ea_ := Option.some.inj (hx217_0.symm.trans hx218_0)
                   injection ea_ with ea_ en_ ec_
                   subst ea_
                   subst ec_
                   clear en_
                   have p219 : 0 ≤ (x5_4 : Int) := of_decide_eq_true (by first | (with_reducible assumption) | assumption)
                   have q219 : x5_4 < ((rd_L1 l0_0 x4_2).length : Int) := of_decide_eq_true (by first | (with_reducible assumption) | assumption)
                   obtain ⟨ad219, e219, hx219_0⟩ := Kd.at_int HR218_0.out x5_4 p219 q219
                   cases e219
                   replace hx219_0 := (HB.out.cell (World.block_lt_of_cell? w _ hx219_0)).trans hx219_0
                   replace p219 := eq_true p219
                   replace q219 := eq_true q219
                   go_wp2
                   repeat (go_quiet (fail); try go_wp2)
                   go_ret
                   exact ⟨by first | rfl | (simp [errW_none, errW_some] <;> rfl) | (simp [*, errW_none, errW_some] <;> rfl), by repeat (first | (with_reducible first | exact HB.out | apply below_alloc | apply pw_below_drewN | apply below_drew1 | refine below_set ?_ GE210.out) | exact HB.out)⟩
                  ·rw [if_neg c32] at H
                   have c32b0 : decide ((rd (rd_L1 l0_0 x4_2) x5_4) < 0) = false := decide_eq_false c32
                   clear c32
                   by_cases c34 : (rd (rd_L1 l0_0 x4_2) x5_4) ≥ 1073741789
                   ·rw [if_pos c34] at H
                    have c34b0 : decide (1073741789 ≤ (rd (rd_L1 l0_0 x4_2) x5_4)) = true := decide_eq_true c34
                    clear c34
                    obtain rfl := Option.some.inj H
                    have hcz35_0 : wr.cell? ⟨gb210, 0, none⟩ = some (.slice A0_0 l0_0.length c0_0) := (blk_cell BK210.out 0).trans rfl
                    have hcz35_1 : wr.cell? ⟨gb210, 1, none⟩ = some (.slice A0_1 l0_1.length c0_1) := (blk_cell BK210.out 1).trans rfl
                    have hfz35_0 := blk_frozen BK210.out 0
                    have hfz35_1 := blk_frozen BK210.out 1
                    have p217 : 0 ≤ (x4_2 : Int) := of_decide_eq_true (by first | (with_reducible assumption) | assumption)
                    have q217 : x4_2 < (l0_0.length : Int) := of_decide_eq_true (by first | (with_reducible assumption) | assumption)
                    obtain ⟨ad217, A217_0, c217_0, e217, hx217_0, hl217_0, hi217_0⟩ := at_L1 HR0_0.out x4_2 p217 q217
                    cases e217
                    replace hx217_0 := (HB.out.cell (World.block_lt_of_cell? w _ hx217_0)).trans hx217_0
                    have HR217_0 := Aside0.mk hi217_0
                    have HC217_0 := Aside0.mk hl217_0
                    clear hi217_0 hl217_0
                    replace p217 := eq_true p217
                    replace q217 := eq_true q217
                    have p218 : 0 ≤ (x4_2 : Int) := of_decide_eq_true (by first | (with_reducible assumption) | assumption)
                    have q218 : x4_2 < (l0_0.length : Int) := of_decide_eq_true (by first | (with_reducible assumption) | assumption)
                    obtain ⟨ad218, A218_0, c218_0, e218, hx218_0, hl218_0, hi218_0⟩ := at_L1 HR0_0.out x4_2 p218 q218
                    obtain rfl : ad217 = ad218 := (by injection e218)
                    replace hx218_0 := (HB.out.cell (World.block_lt_of_cell? w _ hx218_0)).trans hx218_0
                    have HR218_0 := Aside0.mk hi218_0
                    have HC218_0 := Aside0.mk hl218_0
                    clear hi218_0 hl218_0
                    replace p218 := eq_true p218
                    replace q218 := eq_true q218
                    have ea_ := Option.some.inj (hx217_0.symm.trans hx218_0)
                    injection ea_ with ea_ en_ ec_
                    subst ea_
                    subst ec_
                    clear en_
                    have p219 : 0 ≤ (x5_4 : Int) := of_decide_eq_true (by first | (with_reducible assumption) | assumption)
                    have q219 : x5_4 < ((rd_L1 l0_0 x4_2).length : Int) := of_decide_eq_true (by first | (with_reducible assumption) | assumption)
                    obtain ⟨ad219, e219, hx219_0⟩ := Kd.at_int HR218_0.out x5_4 p219 q219
                    cases e219
                    replace hx219_0 := (HB.out.cell (World.block_lt_of_cell? w _ hx219_0)).trans hx219_0
                    replace p219 := eq_true p219
                    replace q219 := eq_true q219
                    have p220 : 0 ≤ (x4_2 : Int) := of_decide_eq_true (by first | (with_reducible assumption) | assumption)
                    have q220 : x4_2 < (l0_0.length : Int) := of_decide_eq_true (by first | (with_reducible assumption) | assumption)
                    obtain ⟨ad220, A220_0, c220_0, e220, hx220_0, hl220_0, hi220_0⟩ := at_L1 HR0_0.out x4_2 p220 q220
                    obtain rfl : ad217 = ad220 := (by injection e220)
                    replace hx220_0 := (HB.out.cell (World.block_lt_of_cell? w _ hx220_0)).trans hx220_0
                    have HR220_0 := Aside0.mk hi220_0
                    have HC220_0 := Aside0.mk hl220_0
                    clear hi220_0 hl220_0
                    replace p220 := eq_true p220
                    replace q220 := eq_true q220
                    have ea_ := Option.some.inj (hx217_0.symm.trans hx220_0)
                    injection ea_ with ea_ en_ ec_
                    subst ea_
                    subst ec_
                    clear en_
                    have p221 : 0 ≤ (x5_4 : Int) := of_decide_eq_true (by first | (with_reducible assumption) | assumption)
                    have q221 : x5_4 < ((rd_L1 l0_0 x4_2).length : Int) := of_decide_eq_true (by first | (with_reducible assumption) | assumption)
                    obtain ⟨ad221, e221, hx221_0⟩ := Kd.at_int HR220_0.out x5_4 p221 q221
                    cases e221
                    replace hx221_0 := (HB.out.cell (World.block_lt_of_cell? w _ hx221_0)).trans hx221_0
                    replace p221 := eq_true p221
                    replace q221 := eq_true q221
                    go_wp2
                    repeat (go_quiet (fail); try go_wp2)
                    go_ret
                    exact ⟨by first | rfl | (simp [errW_none, errW_some] <;> rfl) | (simp [*, errW_none, errW_some] <;> rfl), by repeat (first | (with_reducible first | exact HB.out | apply below_alloc | apply pw_below_drewN | apply below_drew1 | refine below_set ?_ GE210.out) | exact HB.out)⟩
                   ·rw [if_neg c34] at H
                    have c34b0 : decide (1073741789 ≤ (rd (rd_L1 l0_0 x4_2) x5_4)) = false := decide_eq_false c34
                    clear c34
                    have H' := Aside0.mk H
                    clear H
                    have hcz36_0 : wr.cell? ⟨gb210, 0, none⟩ = some (.slice A0_0 l0_0.length c0_0) := (blk_cell BK210.out 0).trans rfl
                    have hcz36_1 : wr.cell? ⟨gb210, 1, none⟩ = some (.slice A0_1 l0_1.length c0_1) := (blk_cell BK210.out 1).trans rfl
                    have hfz36_0 := blk_frozen BK210.out 0
                    have hfz36_1 := blk_frozen BK210.out 1
                    have p217 : 0 ≤ (x4_2 : Int) := of_decide_eq_true (by first | (with_reducible assumption) | assumption)
                    have q217 : x4_2 < (l0_0.length : Int) := of_decide_eq_true (by first | (with_reducible assumption) | assumption)
                    obtain ⟨ad217, A217_0, c217_0, e217, hx217_0, hl217_0, hi217_0⟩ := at_L1 HR0_0.out x4_2 p217 q217
                    cases e217
                    replace hx217_0 := (HB.out.cell (World.block_lt_of_cell? w _ hx217_0)).trans hx217_0
                    have HR217_0 := Aside0.mk hi217_0
                    have HC217_0 := Aside0.mk hl217_0
                    clear hi217_0 hl217_0
                    replace p217 := eq_true p217
                    replace q217 := eq_true q217
                    have p218 : 0 ≤ (x4_2 : Int) := of_decide_eq_true (by first | (with_reducible assumption) | assumption)
                    have q218 : x4_2 < (l0_0.length : Int) := of_decide_eq_true (by first | (with_reducible assumption) | assumption)
                    obtain ⟨ad218, A218_0, c218_0, e218, hx218_0, hl218_0, hi218_0⟩ := at_L1 HR0_0.out x4_2 p218 q218
                    obtain rfl : ad217 = ad218 := (by injection e218)
                    replace hx218_0 := (HB.out.cell (World.block_lt_of_cell? w _ hx218_0)).trans hx218_0
                    have HR218_0 := Aside0.mk hi218_0
                    have HC218_0 := Aside0.mk hl218_0
                    clear hi218_0 hl218_0
                    replace p218 := eq_true p218
                    replace q218 := eq_true q218
                    have ea_ := Option.some.inj (hx217_0.symm.trans hx218_0)
                    injection ea_ with ea_ en_ ec_
                    subst ea_
                    subst ec_
                    clear en_
                    have p219 : 0 ≤ (x5_4 : Int) := of_decide_eq_true (by first | (with_reducible assumption) | assumption)
                    have q219 : x5_4 < ((rd_L1 l0_0 x4_2).length : Int) := of_decide_eq_true (by first | (with_reducible assumption) | assumption)
                    obtain ⟨ad219, e219, hx219_0⟩ := Kd.at_int HR218_0.out x5_4 p219 q219
                    cases e219
                    replace hx219_0 := (HB.out.cell (World.block_lt_of_cell? w _ hx219_0)).trans hx219_0
                    replace p219 := eq_true p219
                    replace q219 := eq_true q219
                    have p220 : 0 ≤ (x4_2 : Int) := of_decide_eq_true (by first | (with_reducible assumption) | assumption)
                    have q220 : x4_2 < (l0_0.length : Int) := of_decide_eq_true (by first | (with_reducible assumption) | assumption)
                    obtain ⟨ad220, A220_0, c220_0, e220, hx220_0, hl220_0, hi220_0⟩ := at_L1 HR0_0.out x4_2 p220 q220
                    obtain rfl : ad217 = ad220 := (by injection e220)
                    replace hx220_0 := (HB.out.cell (World.block_lt_of_cell? w _ hx220_0)).trans hx220_0
                    have HR220_0 := Aside0.mk hi220_0
                    have HC220_0 := Aside0.mk hl220_0
                    clear hi220_0 hl220_0
                    replace p220 := eq_true p220
                    replace q220 := eq_true q220
                    have ea_ := Option.some.inj (hx217_0.symm.trans hx220_0)
                    injection ea_ with ea_ en_ ec_
                    subst ea_
                    subst ec_
                    clear en_
                    have p221 : 0 ≤ (x5_4 : Int) := of_decide_eq_true (by first | (with_reducible assumption) | assumption)
                    have q221 : x5_4 < ((rd_L1 l0_0 x4_2).length : Int) := of_decide_eq_true (by first | (with_reducible assumption) | assumption)
                    obtain ⟨ad221, e221, hx221_0⟩ := Kd.at_int HR220_0.out x5_4 p221 q221
                    cases e221
                    replace hx221_0 := (HB.out.cell (World.block_lt_of_cell? w _ hx221_0)).trans hx221_0
                    replace p221 := eq_true p221
                    replace q221 := eq_true q221
                    go_wp2
                    repeat (go_quiet (fail); try go_wp2)
                    go_roundg k4
                    case measure => have := HK1.out; have := HK2.out; have := HJ14.out; have := HK4.out; omega
                    case rel => exact ⟨(wrap64 (x5_4 + 1)), (by first | rfl | (simp; done) | (simp [*]; done)), H', ⟨by have := HK1.out; have := HK2.out; have := HJ14.out; have := HK4.out; omega⟩, ⟨by (with_reducible repeat (first | refine blk_drewN ?_ _ | refine blk_drew ?_ | refine blk_alloc ?_ _)); exact BK210.out⟩, ⟨by repeat (first | (with_reducible first | exact HB.out | apply below_alloc | apply pw_below_drewN | apply below_drew1 | refine below_set ?_ GE210.out) | exact HB.out)⟩⟩
                 ·rw [if_neg c31] at H
                  exact absurd H (by simp)
                ·rw [if_neg c30] at H
                 have c30b0 : decide (x5_4 < ((rd_L1 l0_0 x4_2).length : Int)) = false := decide_eq_false c30
                 clear c30
                 have H' := Aside0.mk H
                 clear H
                 have hcz37_0 : wr.cell? ⟨gb210, 0, none⟩ = some (.slice A0_0 l0_0.length c0_0) := (blk_cell BK210.out 0).trans rfl
                 have hcz37_1 : wr.cell? ⟨gb210, 1, none⟩ = some (.slice A0_1 l0_1.length c0_1) := (blk_cell BK210.out 1).trans rfl
                 have hfz37_0 := blk_frozen BK210.out 0
                 have hfz37_1 := blk_frozen BK210.out 1
                 have p217 : 0 ≤ (x4_2 : Int) := of_decide_eq_true (by first | (with_reducible assumption) | assumption)
                 have q217 : x4_2 < (l0_0.length : Int) := of_decide_eq_true (by first | (with_reducible assumption) | assumption)
                 obtain ⟨ad217, A217_0, c217_0, e217, hx217_0, hl217_0, hi217_0⟩ := at_L1 HR0_0.out x4_2 p217 q217
                 cases e217
                 replace hx217_0 := (HB.out.cell (World.block_lt_of_cell? w _ hx217_0)).trans hx217_0
                 have HR217_0 := Aside0.mk hi217_0
                 have HC217_0 := Aside0.mk hl217_0
                 clear hi217_0 hl217_0
                 replace p217 := eq_true p217
                 replace q217 := eq_true q217
                 go_wp2
                 repeat (go_quiet (fail); try go_wp2)
                 go_roundg k4
                 case measure => have := HK1.out; have := HK2.out; have := HJ14.out; have := HK4.out; omega
                 case rel => exact ⟨(wrap64 (x4_2 + 1)), (by first | rfl | (simp; done) | (simp [*]; done)), H', ⟨by have := HK1.out; have := HK2.out; have := HJ14.out; have := HK4.out; omega⟩, ⟨by (with_reducible repeat (first | refine blk_drewN ?_ _ | refine blk_drew ?_ | refine blk_alloc ?_ _)); exact BK210.out⟩, ⟨by repeat (first | (with_reducible first | exact HB.out | apply below_alloc | apply pw_below_drewN | apply below_drew1 | refine below_set ?_ GE210.out) | exact HB.out)⟩⟩
               ·rw [if_neg c29] at H
                exact absurd H (by simp)
              ·rw [if_neg c28] at H
               exact absurd H (by simp)
        ·rw [if_neg c14] at H
         have c14b0 : decide (x4_2 < (l0_0.length : Int)) = false := decide_eq_false c14
         clear c14
         obtain rfl := Option.some.inj H
         have hcz38_0 : wr.cell? ⟨gb210, 0, none⟩ = some (.slice A0_0 l0_0.length c0_0) := (blk_cell BK210.out 0).trans rfl
         have hcz38_1 : wr.cell? ⟨gb210, 1, none⟩ = some (.slice A0_1 l0_1.length c0_1) := (blk_cell BK210.out 1).trans rfl
         have hfz38_0 := blk_frozen BK210.out 0
         have hfz38_1 := blk_frozen BK210.out 1
         go_wp2
         repeat (go_quiet (fail); try go_wp2)
         go_ret
         exact ⟨by first | rfl | (simp [errW_none, errW_some] <;> rfl) | (simp [*, errW_none, errW_some] <;> rfl), by repeat (first | (with_reducible first | exact HB.out | apply below_alloc | apply pw_below_drewN | apply below_drew1 | refine below_set ?_ GE210.out) | exact HB.out)⟩
     ·rw [if_neg c12] at H
      have c12b0 : ((l0_0.length : Int) == (l0_1.length : Int)) = false := beq_eq_false_iff_ne.mpr c12
      have c12b1 : ((l0_0.length : Int) != (l0_1.length : Int)) = true := bne_iff_ne.mpr c12
      have c12b2 : (l0_0.length == l0_1.length) = false := by first | simpa using c12 | (simp at c12 ⊢; omega)
      obtain rfl := Option.some.inj H
      have hcz39_0 : wr.cell? ⟨gb210, 0, none⟩ = some (.slice A0_0 l0_0.length c0_0) := (blk_cell BK210.out 0).trans rfl
      have hcz39_1 : wr.cell? ⟨gb210, 1, none⟩ = some (.slice A0_1 l0_1.length c0_1) := (blk_cell BK210.out 1).trans rfl
      have hfz39_0 := blk_frozen BK210.out 0
      have hfz39_1 := blk_frozen BK210.out 1
      go_wp2
      repeat (go_quiet (fail); try go_wp2)
      go_ret
      exact ⟨by first | rfl | (simp [errW_none, errW_some] <;> rfl) | (simp [*, errW_none, errW_some] <;> rfl), by repeat (first | (with_reducible first | exact HB.out | apply below_alloc | apply pw_below_drewN | apply below_drew1 | refine below_set ?_ GE210.out) | exact HB.out)⟩
def signatoryref34_Columns.f (l0_0 : List (List Int)) (l0_1 : List Int) : Option (Int) := if (l0_0.length : Int) = 0 then (some 1) else (if 0 < (l0_0.length : Int) then (some ((rd_L1 l0_0 0).length : Int)) else (none))
set_option maxHeartbeats 8000000 in
set_option maxRecDepth 100000 in
theorem signatoryref34_Columns.calls (A0_0 : Option Addr) (c0_0 : Nat) (l0_0 : List (List Int)) (A0_1 : Option Addr) (c0_1 : Nat) (l0_1 : List Int) (r : Int) (w : World) (hr0_0 : Kd.C (Kd.slice 3 (Kd.int .i64)) w A0_0 l0_0.length l0_0) (hc0_0 : l0_0.length ≤ c0_0) (hr0_1 : Kd.C (Kd.int .i64) w A0_1 l0_1.length l0_1) (hc0_1 : l0_1.length ≤ c0_1) (h : signatoryref34_Columns.f l0_0 l0_1 = some r) :
  Calls Try.prog 35 #[.agg #[.slice A0_0 l0_0.length c0_0, .slice A0_1 l0_1.length c0_1]] w fun e w' => e = .returned (.int .i64 r) ∧ Below w.heap.size w w' := by
 have hu25 := Try.underlying25
 have HR0_0 := Aside0.mk hr0_0
 have HC0_0 := Aside0.mk hc0_0
 clear hr0_0 hc0_0
 have HR0_1 := Aside0.mk hr0_1
 have HC0_1 := Aside0.mk hc0_1
 clear hr0_1 hc0_1
 have HB := Aside0.mk (Below.refl w.heap.size w)
 have H : (if (l0_0.length : Int) = 0 then (some 1) else (if 0 < (l0_0.length : Int) then (some ((rd_L1 l0_0 0).length : Int)) else (none))) = some r := h
 clear h
 by_cases c2 : (l0_0.length : Int) = 0
 ·rw [if_pos c2] at H
  have c2b0 : ((l0_0.length : Int) == 0) = true := beq_iff_eq.mpr c2
  have c2b1 : ((l0_0.length : Int) != 0) = false := bne_eq_false_iff_eq.mpr c2
  clear c2
  obtain rfl := Option.some.inj H
  go_enter Try.func35, Try.ntmps35
  go_wp2_with (first | ((with_reducible refine gate_dst (N := 1) rfl ?_); refine box_event ?hg (N := 1) ?hd (cs := #[.slice A0_0 l0_0.length c0_0, .slice A0_1 l0_1.length c0_1]) (t := 25) ?hr ?_; (case hd => rfl); (case hg => rfl); (case hr => first | (go_simp; done) | (go_simp; rfl)); intro gb244 hg w3 hbox hb; have n0_ := Aside0.mk (below_step (by repeat (first | (with_reducible first | exact HB.out | apply below_alloc | apply pw_below_drewN | apply below_drew1) | exact HB.out)) hb); have n1_ := Aside0.mk (hbox); have n2_ := Aside0.mk ((by rw [hg]; exact (below_size (by repeat (first | (with_reducible first | exact HB.out | apply below_alloc | apply pw_below_drewN | apply below_drew1) | exact HB.out))) : w.heap.size ≤ gb244)); have n3_ := Aside0.mk ((by rw [hg]; exact (below_size (by repeat (first | (with_reducible first | exact HB.out | apply below_alloc | apply pw_below_drewN | apply below_drew1) | exact HB.out))) : w.heap.size ≤ gb244)); clear HB; have HB := n0_; have BK244 := n1_; have GW244 := n2_; have GE244 := n3_; clear n0_ n1_ n2_ n3_; clear hb hbox hg; have hcz4_0 : w3.cell? ⟨gb244, 0, none⟩ = some (.slice A0_0 l0_0.length c0_0) := (blk_cell BK244.out 0).trans rfl; have hcz4_1 : w3.cell? ⟨gb244, 1, none⟩ = some (.slice A0_1 l0_1.length c0_1) := (blk_cell BK244.out 1).trans rfl; have hfz4_0 := blk_frozen BK244.out 0; have hfz4_1 := blk_frozen BK244.out 1))
  go_ret
  exact ⟨by first | rfl | (simp [errW_none, errW_some] <;> rfl) | (simp [*, errW_none, errW_some] <;> rfl), by repeat (first | (with_reducible first | exact HB.out | apply below_alloc | apply pw_below_drewN | apply below_drew1 | refine below_set ?_ GE244.out) | exact HB.out)⟩
 ·rw [if_neg c2] at H
  have c2b0 : ((l0_0.length : Int) == 0) = false := beq_eq_false_iff_ne.mpr c2
  have c2b1 : ((l0_0.length : Int) != 0) = true := bne_iff_ne.mpr c2
  have c2b2 : ¬ (l0_0 = []) := fun h_ => c2 (by rw [h_]; rfl)
  by_cases c5 : 0 < (l0_0.length : Int)
  ·rw [if_pos c5] at H
   have c5b0 : decide (0 < (l0_0.length : Int)) = true := decide_eq_true c5
   have c5b1 : decide (0 < l0_0.length) = true := decide_eq_true (by omega)
   clear c5
   obtain rfl := Option.some.inj H
   go_enter Try.func35, Try.ntmps35
   go_wp2_with (first | ((with_reducible refine gate_dst (N := 1) rfl ?_); refine box_event ?hg (N := 1) ?hd (cs := #[.slice A0_0 l0_0.length c0_0, .slice A0_1 l0_1.length c0_1]) (t := 25) ?hr ?_; (case hd => rfl); (case hg => rfl); (case hr => first | (go_simp; done) | (go_simp; rfl)); intro gb244 hg w6 hbox hb; have n0_ := Aside0.mk (below_step (by repeat (first | (with_reducible first | exact HB.out | apply below_alloc | apply pw_below_drewN | apply below_drew1) | exact HB.out)) hb); have n1_ := Aside0.mk (hbox); have n2_ := Aside0.mk ((by rw [hg]; exact (below_size (by repeat (first | (with_reducible first | exact HB.out | apply below_alloc | apply pw_below_drewN | apply below_drew1) | exact HB.out))) : w.heap.size ≤ gb244)); have n3_ := Aside0.mk ((by rw [hg]; exact (below_size (by repeat (first | (with_reducible first | exact HB.out | apply below_alloc | apply pw_below_drewN | apply below_drew1) | exact HB.out))) : w.heap.size ≤ gb244)); clear HB; have HB := n0_; have BK244 := n1_; have GW244 := n2_; have GE244 := n3_; clear n0_ n1_ n2_ n3_; clear hb hbox hg; have hcz7_0 : w6.cell? ⟨gb244, 0, none⟩ = some (.slice A0_0 l0_0.length c0_0) := (blk_cell BK244.out 0).trans rfl; have hcz7_1 : w6.cell? ⟨gb244, 1, none⟩ = some (.slice A0_1 l0_1.length c0_1) := (blk_cell BK244.out 1).trans rfl; have hfz7_0 := blk_frozen BK244.out 0; have hfz7_1 := blk_frozen BK244.out 1; have p245 : 0 ≤ (0 : Int) := (by omega); have q245 : 0 < (l0_0.length : Int) := of_decide_eq_true (by first | (with_reducible assumption) | assumption); obtain ⟨ad245, A245_0, c245_0, e245, hx245_0, hl245_0, hi245_0⟩ := at_L1 HR0_0.out 0 p245 q245; cases e245; have qi245 : (0 < l0_0.length) = True := eq_true (by omega); (try rw [show ((0 : Int)).toNat = 0 from rfl] at hx245_0); (try rw [Addr.add_zero'] at hx245_0); replace hx245_0 := (HB.out.cell (World.block_lt_of_cell? w _ hx245_0)).trans hx245_0; have HR245_0 := Aside0.mk hi245_0; have HC245_0 := Aside0.mk hl245_0; clear hi245_0 hl245_0; replace p245 := eq_true p245; replace q245 := eq_true q245))
   go_ret
   exact ⟨by first | rfl | (simp [errW_none, errW_some] <;> rfl) | (simp [*, errW_none, errW_some] <;> rfl), by repeat (first | (with_reducible first | exact HB.out | apply below_alloc | apply pw_below_drewN | apply below_drew1 | refine below_set ?_ GE244.out) | exact HB.out)⟩
  ·rw [if_neg c5] at H
   exact absurd H (by simp)
def signatoryref34_Same.l0 : Nat → List (S38) → List (S38) → Int → Option (Bool)
 | 0, _, _, _ => none
 | k + 1, x0, x1, x5 => if x5 < (x0.length : Int) then (if 0 ≤ x5 then (if x5 < (x1.length : Int) then (if (!(((rd_T38 x0 x5).f0) == ((rd_T38 x1 x5).f0)) || (!(((rd_T38 x0 x5).f1) == ((rd_T38 x1 x5).f1)))) = true then (some false) else (signatoryref34_Same.l0 k x0 x1 (wrap64 (x5 + 1)))) else (none)) else (none)) else (some true)
def signatoryref34_Same.f (k : Nat) (l0 : List (S38)) (l1 : List (S38)) : Option (Bool) := if (l0.length : Int) = (l1.length : Int) then (signatoryref34_Same.l0 k l0 l1 0) else (some false)
set_option maxHeartbeats 8000000 in
set_option maxRecDepth 100000 in
theorem signatoryref34_Same.calls (k : Nat) (A0 : Option Addr) (c0 : Nat) (l0 : List (S38)) (A1 : Option Addr) (c1 : Nat) (l1 : List (S38)) (r : Bool) (w : World) (hr0 : Kd.C k38 w A0 l0.length l0) (hc0 : l0.length ≤ c0) (hr1 : Kd.C k38 w A1 l1.length l1) (hc1 : l1.length ≤ c1) (h : signatoryref34_Same.f k l0 l1 = some r) :
  Calls Try.prog 26 #[.slice A0 l0.length c0, .slice A1 l1.length c1] w fun e w' => e = .returned (.bool r) ∧ Drawn0 w w' := by
 have hu38 := Try.underlying38
 have HR0 := Aside0.mk hr0
 have HC0 := Aside0.mk hc0
 clear hr0 hc0
 have HR1 := Aside0.mk hr1
 have HC1 := Aside0.mk hc1
 clear hr1 hc1
 have H : (if (l0.length : Int) = (l1.length : Int) then (signatoryref34_Same.l0 k l0 l1 0) else (some false)) = some r := h
 clear h
 by_cases c3 : (l0.length : Int) = (l1.length : Int)
 ·rw [if_pos c3] at H
  have c3b0 : ((l0.length : Int) == (l1.length : Int)) = true := beq_iff_eq.mpr c3
  have c3b1 : ((l0.length : Int) != (l1.length : Int)) = false := bne_eq_false_iff_eq.mpr c3
  have c3b2 : (l0.length == l1.length) = true := by first | simpa using c3 | (simp at c3 ⊢; omega)
  clear c3
  have H' := Aside0.mk H
  clear H
  go_enter Try.func26, Try.ntmps26
  go_wp2
  repeat (go_quiet (fail); try go_wp2)
  go_loopg [5] k (fun kq v5 w' => ∃ (x5_1 : Int), v5 = .int .i64 x5_1 ∧ Aside0 (signatoryref34_Same.l0 kq l0 l1 x5_1 = some r) ∧ Aside0 (kq ≤ k) ∧ Drawn0 w w')
  case atStart => exact ⟨(0), (by first | rfl | (simp; done) | (simp [*]; done)), H', ⟨Nat.le_refl _⟩, by repeat (first | exact Drawn0.refl _ | apply Drawn0.step)⟩
  case round =>
   clear H'
   try clear c1
   try clear c2
   try clear p2
   try clear c3
   try clear c3b0
   try clear c3b1
   try clear c3b2
   obtain ⟨x5_1, rfl, HA, HK1, ⟨m1, rfl⟩⟩ := hrel
   cases gk with
   | zero => exact absurd HA.out (by simp [signatoryref34_Same.l0])
   | succ k1 =>
    have H := HA.out
    clear HA
    simp only [signatoryref34_Same.l0] at H
    by_cases c4 : x5_1 < (l0.length : Int)
    ·rw [if_pos c4] at H
     have c4b0 : decide (x5_1 < (l0.length : Int)) = true := decide_eq_true c4
     clear c4
     by_cases c5 : 0 ≤ x5_1
     ·rw [if_pos c5] at H
      have c5b0 : decide (0 ≤ x5_1) = true := decide_eq_true c5
      clear c5
      by_cases c6 : x5_1 < (l1.length : Int)
      ·rw [if_pos c6] at H
       have c6b0 : decide (x5_1 < (l1.length : Int)) = true := decide_eq_true c6
       clear c6
       by_cases c7 : (!(((rd_T38 l0 x5_1).f0) == ((rd_T38 l1 x5_1).f0)) || (!(((rd_T38 l0 x5_1).f1) == ((rd_T38 l1 x5_1).f1)))) = true
       ·rw [if_pos c7] at H
        have c7b0 : (!(((rd_T38 l0 x5_1).f0) == ((rd_T38 l1 x5_1).f0)) || (!(((rd_T38 l0 x5_1).f1) == ((rd_T38 l1 x5_1).f1)))) = true := c7
        clear c7
        obtain rfl := Option.some.inj H
        have p344 : 0 ≤ (x5_1 : Int) := of_decide_eq_true (by first | (with_reducible assumption) | assumption)
        have q344 : x5_1 < (l0.length : Int) := of_decide_eq_true (by first | (with_reducible assumption) | assumption)
        obtain ⟨ad344, e344, hx344_0, hx344_1⟩ := at_T38 HR0.out x5_1 p344 q344
        cases e344
        replace p344 := eq_true p344
        replace q344 := eq_true q344
        have p345 : 0 ≤ (x5_1 : Int) := of_decide_eq_true (by first | (with_reducible assumption) | assumption)
        have q345 : x5_1 < (l1.length : Int) := of_decide_eq_true (by first | (with_reducible assumption) | assumption)
        obtain ⟨ad345, e345, hx345_0, hx345_1⟩ := at_T38 HR1.out x5_1 p345 q345
        cases e345
        replace p345 := eq_true p345
        replace q345 := eq_true q345
        go_wp2
        repeat (go_quiet (fail); try go_wp2)
        go_ret
        exact ⟨by first | rfl | (simp; done) | (simp [*]; done), by repeat (first | exact Drawn0.refl _ | apply Drawn0.step)⟩
       ·rw [if_neg c7] at H
        have c7b0 : (!(((rd_T38 l0 x5_1).f0) == ((rd_T38 l1 x5_1).f0)) || (!(((rd_T38 l0 x5_1).f1) == ((rd_T38 l1 x5_1).f1)))) = false := by simpa using c7
        clear c7
        have H' := Aside0.mk H
        clear H
        have p344 : 0 ≤ (x5_1 : Int) := of_decide_eq_true (by first | (with_reducible assumption) | assumption)
        have q344 : x5_1 < (l0.length : Int) := of_decide_eq_true (by first | (with_reducible assumption) | assumption)
        obtain ⟨ad344, e344, hx344_0, hx344_1⟩ := at_T38 HR0.out x5_1 p344 q344
        cases e344
        replace p344 := eq_true p344
        replace q344 := eq_true q344
        have p345 : 0 ≤ (x5_1 : Int) := of_decide_eq_true (by first | (with_reducible assumption) | assumption)
        have q345 : x5_1 < (l1.length : Int) := of_decide_eq_true (by first | (with_reducible assumption) | assumption)
        obtain ⟨ad345, e345, hx345_0, hx345_1⟩ := at_T38 HR1.out x5_1 p345 q345
        cases e345
        replace p345 := eq_true p345
        replace q345 := eq_true q345
        go_wp2
        repeat (go_quiet (fail); try go_wp2)
        go_roundg k1
        case measure => have := HK1.out; omega
        case rel => exact ⟨(wrap64 (x5_1 + 1)), (by first | rfl | (simp; done) | (simp [*]; done)), H', ⟨by have := HK1.out; omega⟩, by repeat (first | exact Drawn0.refl _ | apply Drawn0.step)⟩
      ·rw [if_neg c6] at H
       exact absurd H (by simp)
     ·rw [if_neg c5] at H
      exact absurd H (by simp)
    ·rw [if_neg c4] at H
     have c4b0 : decide (x5_1 < (l0.length : Int)) = false := decide_eq_false c4
     clear c4
     obtain rfl := Option.some.inj H
     go_wp2
     repeat (go_quiet (fail); try go_wp2)
     go_ret
     exact ⟨by first | rfl | (simp; done) | (simp [*]; done), by repeat (first | exact Drawn0.refl _ | apply Drawn0.step)⟩
 ·rw [if_neg c3] at H
  have c3b0 : ((l0.length : Int) == (l1.length : Int)) = false := beq_eq_false_iff_ne.mpr c3
  have c3b1 : ((l0.length : Int) != (l1.length : Int)) = true := bne_iff_ne.mpr c3
  have c3b2 : (l0.length == l1.length) = false := by first | simpa using c3 | (simp at c3 ⊢; omega)
  obtain rfl := Option.some.inj H
  go_enter Try.func26, Try.ntmps26
  go_wp2
  repeat (go_quiet (fail); try go_wp2)
  go_ret
  exact ⟨by first | rfl | (simp; done) | (simp [*]; done), by repeat (first | exact Drawn0.refl _ | apply Drawn0.step)⟩
def signatorylaw34_one.f  : Option ((List (List Int)) × List Int) := some ((([(([1] : List Int))] : List (List Int))), (([4] : List Int)))
set_option maxHeartbeats 8000000 in
set_option maxRecDepth 100000 in
theorem signatorylaw34_one.calls  (r1 : List (List Int)) (r2 : List Int) (w : World) (h : signatorylaw34_one.f  = some (r1, r2)) :
  Calls Try.prog 81 #[] w fun e w' => ∃ v0_ v1_ : Value, e = .returned (.agg #[v0_, v1_]) ∧ Kd.N (Kd.slice 3 (Kd.int .i64)) 23 w' w.heap.size (fun k_ => (w.heap.size ≤ k_) ∧ some k_ ≠ (v1_ : Value).ownBlock) v0_ r1 ∧ Kd.R (Kd.int .i64) 3 w' w.heap.size (fun k_ => (w.heap.size ≤ k_)) v1_ r2 ∧ Below w.heap.size w w' := by
 have hu25 := Try.underlying25
 have HB := Aside0.mk (Below.refl w.heap.size w)
 have H : (some ((([(([1] : List Int))] : List (List Int))), (([4] : List Int)))) = some (r1, r2) := h
 clear h
 obtain ⟨y366, hy366⟩ : ∃ y_ : List Int, y_ = (([1] : List Int)) := ⟨_, rfl⟩
 replace H : (some ((([y366] : List (List Int))), (([4] : List Int)))) = some (r1, r2) := by first | (rw [hy366]; with_reducible exact H) | (have H2_ := (Option.bind_some _ _).symm.trans H; rw [hy366]; with_reducible exact H2_) | (have H2_ := (Option.bind_some _ _).symm.trans H; with_reducible exact H2_) | with_reducible exact H | (rw [hy366]; exact H) | exact H
 have Ny366 := Aside0.mk hy366
 clear hy366
 obtain ⟨y369, hy369⟩ : ∃ y_ : List (List Int), y_ = (([y366] : List (List Int))) := ⟨_, rfl⟩
 replace H : (some (y369, (([4] : List Int)))) = some (r1, r2) := by first | (rw [hy369]; with_reducible exact H) | (have H2_ := (Option.bind_some _ _).symm.trans H; rw [hy369]; with_reducible exact H2_) | (have H2_ := (Option.bind_some _ _).symm.trans H; with_reducible exact H2_) | with_reducible exact H | (rw [hy369]; exact H) | exact H
 have Ny369 := Aside0.mk hy369
 clear hy369
 obtain ⟨y372, hy372⟩ : ∃ y_ : List Int, y_ = (([4] : List Int)) := ⟨_, rfl⟩
 replace H : (some (y369, y372)) = some (r1, r2) := by first | (rw [hy372]; with_reducible exact H) | (have H2_ := (Option.bind_some _ _).symm.trans H; rw [hy372]; with_reducible exact H2_) | (have H2_ := (Option.bind_some _ _).symm.trans H; with_reducible exact H2_) | with_reducible exact H | (rw [hy372]; exact H) | exact H
 have Ny372 := Aside0.mk hy372
 clear hy372
 simp only [Option.some.injEq, Prod.mk.injEq] at H
 obtain ⟨rfl, rfl⟩ := H
 go_enter Try.func81, Try.ntmps81
 go_wp2_with (first | ((with_reducible refine gate_dst (N := 0) rfl ?_); refine box_event ?hg (N := 0) ?hd (cs := #[.slice none 0 0, .slice none 0 0]) (t := 25) ?hr ?_; (case hd => rfl); (case hg => rfl); (case hr => first | (go_simp; done) | (go_simp; rfl)); intro gb365 hg w1 hbox hb; have n0_ := Aside0.mk (below_step (by repeat (first | (with_reducible first | exact HB.out | apply below_alloc | apply pw_below_drewN | apply below_drew1) | exact HB.out)) hb); have n1_ := Aside0.mk (hbox); have n2_ := Aside0.mk ((by rw [hg]; exact (below_size (by repeat (first | (with_reducible first | exact HB.out | apply below_alloc | apply pw_below_drewN | apply below_drew1) | exact HB.out))) : w.heap.size ≤ gb365)); have n3_ := Aside0.mk ((by rw [hg]; exact (below_size (by repeat (first | (with_reducible first | exact HB.out | apply below_alloc | apply pw_below_drewN | apply below_drew1) | exact HB.out))) : w.heap.size ≤ gb365)); clear HB; have HB := n0_; have BK365 := n1_; have GW365 := n2_; have GE365 := n3_; clear n0_ n1_ n2_ n3_; clear hb hbox hg) | ((with_reducible refine gate_dst (N := 1) rfl ?_); refine Kd.R_lit (Kd.int .i64) _ 3 ?hg (N := 1) ?hd (xs := ([1] : List Int)) (inner := [.int .i64 1]) (ok := fun _ => True) (okp := fun _ => True) ?hr ?hp (fun _ hk => hk) trivial (Below.refl _ _) (Nat.le_refl _) (by simp) ?_; (case hd => rfl); (case hg => rfl); (case hr => first | (go_simp; done) | (go_simp; rfl)); (case hp => exact (Reps.one (show Kd.M (Kd.int .i64) _ _ _ 1 [.int .i64 1] from rfl) (Reps.none _ _))); intro v367 w2 ho3 hb hg_ hnew_; clear hg_ hnew_; (first | rw [← Ny366.out] at ho3 | (simp only [Int.reduceToNat] at ho3; rw [← Ny366.out] at ho3)); have n0_ := Aside0.mk (Kd.R_lower (Kd.R_newM (M := fun k_ => (w.heap.size ≤ k_)) ho3 (below_size (by repeat (first | (with_reducible first | exact HB.out | apply below_alloc | apply pw_below_drewN | apply below_drew1 | refine below_set ?_ GE365.out) | exact HB.out))) (fun k_ h_ => h_)) (below_size (by repeat (first | (with_reducible first | exact HB.out | apply below_alloc | apply pw_below_drewN | apply below_drew1 | refine below_set ?_ GE365.out) | exact HB.out)))); have n1_ := Aside0.mk (blk_below (g := gb365) (o := .cells #[.slice none 0 0, .slice none 0 0] 25 (0, 0)) (by (with_reducible repeat (first | refine blk_drewN ?_ _ | refine blk_drew ?_ | refine blk_alloc ?_ _)); exact BK365.out) hb); have n2_ := Aside0.mk (below_step (by repeat (first | (with_reducible first | exact HB.out | apply below_alloc | apply pw_below_drewN | apply below_drew1 | refine below_set ?_ GE365.out) | exact HB.out)) hb); clear BK365; clear HB; have HO368 := n0_; have BK365 := n1_; have HB := n2_; clear n0_ n1_ n2_; clear hb ho3; obtain ⟨Ao4, co4, eo4⟩ := Kd.R_slice HO368.out; subst eo4) | ((with_reducible refine gate_dst (N := 2) rfl ?_); refine Kd.N_lit (Kd.slice 3 (Kd.int .i64)) _ 23 ?hg (N' := 2) ?hd (xs := ([y366] : List (List Int))) (inner := [.slice Ao4 y366.length co4]) (ok := (fun k_ => (w.heap.size ≤ k_) ∧ k_ ≠ gb365)) (okp := (fun k_ => (w.heap.size ≤ k_) ∧ k_ ≠ gb365)) ?hr ?hp (fun _ hk => hk) ((show ∀ k_, w2.heap.size ≤ k_ → (fun k_ => (w.heap.size ≤ k_) ∧ k_ ≠ gb365) k_ from fun k_ hk => ⟨(Nat.le_trans (below_size (by repeat (first | (with_reducible first | exact HB.out | apply below_alloc | apply pw_below_drewN | apply below_drew1 | refine below_set ?_ GE365.out) | exact HB.out))) hk), Kd.freshB (g := gb365) (o := .cells #[.slice none 0 0, .slice none 0 0] 25 (0, 0)) (by (with_reducible repeat (first | refine blk_drewN ?_ _ | refine blk_drew ?_ | refine blk_alloc ?_ _)); exact BK365.out) k_ hk⟩) _ (Nat.le_refl _)) (Below.refl _ _) (Nat.le_refl _) (by simp) ?_; (case hd => rfl); (case hg => rfl); (case hr => first | (go_simp; done) | (go_simp; rfl)); (case hp => exact (Reps.one (show Kd.FK (Kd.slice 3 (Kd.int .i64)) _ _ y366 [.slice Ao4 y366.length co4] from (Kd.FK_slice_mk (Kd.R_reads' (Kd.R_mono (ok' := (fun k_ => (w.heap.size ≤ k_) ∧ k_ ≠ gb365)) (Kd.R_types (HO368.out) BK365.out (by decide)) (fun k_ hk => ⟨hk.1.1, hk.2⟩))).2.1 (Kd.R_F (Kd.R_mono (ok' := (fun k_ => (w.heap.size ≤ k_) ∧ k_ ≠ gb365)) (Kd.R_types (HO368.out) BK365.out (by decide)) (fun k_ hk => ⟨hk.1.1, hk.2⟩))))) (Reps.none _ _))); intro v370 w5 ho6 hb hg_ hnew_; clear hg_ hnew_; (first | rw [← Ny369.out] at ho6 | (simp only [Int.reduceToNat] at ho6; rw [← Ny369.out] at ho6)); have n0_ := Aside0.mk (Kd.N_lower ho6 (below_size (by repeat (first | (with_reducible first | exact HB.out | apply below_alloc | apply pw_below_drewN | apply below_drew1 | refine below_set ?_ GE365.out) | exact HB.out)))); have n1_ := Aside0.mk (blk_below (g := gb365) (o := .cells #[.slice none 0 0, .slice none 0 0] 25 (0, 0)) (by (with_reducible repeat (first | refine blk_drewN ?_ _ | refine blk_drew ?_ | refine blk_alloc ?_ _)); exact BK365.out) hb); have n2_ := Aside0.mk (below_step (by repeat (first | (with_reducible first | exact HB.out | apply below_alloc | apply pw_below_drewN | apply below_drew1 | refine below_set ?_ GE365.out) | exact HB.out)) hb); clear BK365; clear HB; clear HO368; have HO371 := n0_; have BK365 := n1_; have HB := n2_; clear n0_ n1_ n2_; clear hb ho6) | ((with_reducible refine gate_dst (N := 3) rfl ?_); refine Kd.R_lit (Kd.int .i64) _ 3 ?hg (N := 3) ?hd (xs := ([4] : List Int)) (inner := [.int .i64 4]) (ok := fun _ => True) (okp := fun _ => True) ?hr ?hp (fun _ hk => hk) trivial (Below.refl _ _) (Nat.le_refl _) (by simp) ?_; (case hd => rfl); (case hg => rfl); (case hr => first | (go_simp; done) | (go_simp; rfl)); (case hp => exact (Reps.one (show Kd.M (Kd.int .i64) _ _ _ 4 [.int .i64 4] from rfl) (Reps.none _ _))); intro v373 w7 ho8 hb hg_ hnew_; clear hg_ hnew_; (first | rw [← Ny372.out] at ho8 | (simp only [Int.reduceToNat] at ho8; rw [← Ny372.out] at ho8)); have n0_ := Aside0.mk (Kd.N_elder' (by (with_reducible repeat (first | apply Kd.N_alloc | apply Kd.N_drewN | apply Kd.N_drew)); exact HO371.out) (Kd.R_base ho8) hb); have n1_ := Aside0.mk (Kd.R_lower (Kd.R_newM (M := fun k_ => (w.heap.size ≤ k_)) ho8 (below_size (by repeat (first | (with_reducible first | exact HB.out | apply below_alloc | apply pw_below_drewN | apply below_drew1 | refine below_set ?_ GE365.out) | exact HB.out))) (fun k_ h_ => h_)) (below_size (by repeat (first | (with_reducible first | exact HB.out | apply below_alloc | apply pw_below_drewN | apply below_drew1 | refine below_set ?_ GE365.out) | exact HB.out)))); have n2_ := Aside0.mk (blk_below (g := gb365) (o := .cells #[.slice none 0 0, .slice none 0 0] 25 (0, 0)) (by (with_reducible repeat (first | refine blk_drewN ?_ _ | refine blk_drew ?_ | refine blk_alloc ?_ _)); exact BK365.out) hb); have n3_ := Aside0.mk (below_step (by repeat (first | (with_reducible first | exact HB.out | apply below_alloc | apply pw_below_drewN | apply below_drew1 | refine below_set ?_ GE365.out) | exact HB.out)) hb); clear HO371; clear BK365; clear HB; have HO371 := n0_; have HO374 := n1_; have BK365 := n2_; have HB := n3_; clear n0_ n1_ n2_ n3_; clear hb ho8; obtain ⟨Ao9, co9, eo9⟩ := Kd.R_slice HO374.out; subst eo9; obtain ⟨Ao10, co10, eo10⟩ := Kd.N_slice HO371.out; subst eo10; have hcz11_0 : w7.cell? ⟨gb365, 0, none⟩ = some (.slice none 0 0) := (blk_cell BK365.out 0).trans rfl; have hcz11_1 : w7.cell? ⟨gb365, 1, none⟩ = some (.slice none 0 0) := (blk_cell BK365.out 1).trans rfl; have hfz11_0 := blk_frozen BK365.out 0; have hfz11_1 := blk_frozen BK365.out 1))
 refine bodyPost_ret (results_cell_row rfl _ _ gb365 25 #[.slice Ao10 y369.length co10, .slice Ao9 y372.length co9] (0, 0) _ rfl (by (with_reducible repeat (first | refine blk_drewN ?_ _ | refine blk_drew ?_ | refine blk_alloc ?_ _)); refine blk_put (cs := #[.slice Ao10 y369.length co10, .slice none 0 0]) ?_ 1 _ rfl; (with_reducible repeat (first | refine blk_drewN ?_ _ | refine blk_drew ?_ | refine blk_alloc ?_ _)); refine blk_put (cs := #[.slice none 0 0, .slice none 0 0]) ?_ 0 _ rfl; (with_reducible repeat (first | refine blk_drewN ?_ _ | refine blk_drew ?_ | refine blk_alloc ?_ _)); exact BK365.out) Try.underlying25 rfl (by kernel_rfl)) rfl ?_
 exact ⟨_, _, by first | rfl | (simp [errW_none, errW_some] <;> rfl) | (simp [*, errW_none, errW_some] <;> rfl), by (with_reducible repeat (first | apply Kd.N_alloc | apply Kd.N_drewN | apply Kd.N_drew)); exact Kd.N_mono (Kd.N_far (p := ⟨gb365, 1, none⟩) (Kd.N_far (p := ⟨gb365, 0, none⟩) (Kd.N_mono HO371.out (fun k_ hk => (⟨hk, hk.1.2⟩ : _ ∧ k_ ≠ gb365))) (fun _ hk => hk.2) (.slice Ao10 y369.length co10)) (fun _ hk => hk.2) (.slice Ao9 y372.length co9)) (fun _ hk => ⟨hk.1.1.1, hk.1.2⟩), by (with_reducible repeat (first | apply Kd.R_alloc | apply Kd.R_drewN | apply Kd.R_drew)); exact Kd.R_mono (Kd.R_far (p := ⟨gb365, 1, none⟩) (Kd.R_far (p := ⟨gb365, 0, none⟩) (Kd.R_types HO374.out BK365.out (by decide)) (fun _ hk => hk.2) (.slice Ao10 y369.length co10)) (fun _ hk => hk.2) (.slice Ao9 y372.length co9)) (fun _ hk => hk.1.1), by repeat (first | (with_reducible first | exact HB.out | apply below_alloc | apply pw_below_drewN | apply below_drew1 | refine below_set ?_ GE365.out) | exact HB.out)⟩
end Go.Proofs.Ytdbamhckgaoibaa.P
namespace Go.Proofs.Ytdbamhckgaoibaa.P
open Go.RowKit Go.Proofs.YtdbamhckgaoibaaW.PrintWords Go.Proofs.YtdbamhckgaoibaaW.PrintLast Go.Proofs.YtdbamhckgaoibaaW.PrintMore
theorem ref_l2 (rows : List (List Int)) (owners : List Int) (i : Nat) (hi : i < rows.length) (hl : (rows.getD i []).length < 1000000) (hn : rows.length < 1000000) (k : Nat) : ∀ d j, (rows.getD i []).length - j = d → j ≤ (rows.getD i []).length →
    signatoryref23_Check.l2 (k + d + 1) (i : Int) (j : Int) rows owners = if ((rows.getD i []).drop j).any outQ then some 230 else signatoryref23_Check.l1 k ((i + 1 : Nat) : Int) rows owners := by
  intro d
  induction d with
  | zero =>
    intro j hd hj
    obtain rfl : j = (rows.getD i []).length := by omega
    rw [signatoryref23_Check.l2, if_pos (by omega), if_pos (by omega), rd_L1_nat, if_neg (by omega), wrap_succ (by omega), List.drop_length]; rfl
  | succ d ih =>
    intro j hd hj
    have hjr : j < (rows.getD i []).length := by omega
    have e2 : (rows.getD i []).getD j 0 = (rows.getD i [])[j] := by rw [List.getD_eq_getElem?_getD, List.getElem?_eq_getElem hjr]; rfl
    rw [signatoryref23_Check.l2, if_pos (by omega), if_pos (by omega), rd_L1_nat, if_pos (by omega), if_pos (by omega), rd_nat, e2, List.drop_eq_getElem_cons hjr, List.any_cons]
    generalize (rows.getD i [])[j] = x
    by_cases h1 : x < 0
    · rw [if_pos h1, outQ_low h1]; rfl
    · rw [if_neg h1]
      by_cases h2 : x ≥ 1073741789
      · rw [if_pos h2, outQ_high h1, decide_eq_true h2]; rfl
      · rw [if_neg h2, outQ_high h1, decide_eq_false (by omega), Bool.false_or, wrap_succ (by omega), ← Nat.add_assoc]
        exact ih (j + 1) (by omega) (by omega)
theorem ref_l1 (rows : List (List Int)) (owners : List Int) (ho : rows.length = owners.length) (hl : ∀ i, i < rows.length → (rows.getD i []).length ≤ 64) (hn : rows.length < 1000000) : ∀ d i k, rows.length - i = d → i ≤ rows.length → 70 * d + 1 ≤ k →
    signatoryref23_Check.l1 k (i : Int) rows owners = some (if goodFrom rows owners d i then 0 else 230) := by
  intro d
  induction d with
  | zero =>
    intro i k hd hi hk
    obtain ⟨k, rfl⟩ : ∃ k', k = k' + 1 := ⟨k - 1, by omega⟩
    rw [signatoryref23_Check.l1, if_neg (by omega)]; rfl
  | succ d ih =>
    intro i k hd hi hk
    have hil := hl i (by omega)
    obtain ⟨k, rfl⟩ : ∃ k', k = k' + (rows.getD i []).length + 1 + 1 + 1 := ⟨k - (rows.getD i []).length - 3, by omega⟩
    rw [signatoryref23_Check.l1, if_pos (by omega), if_pos (by omega), rd_L1_nat, rdL0, rd_nat, goodFrom]
    unfold goodAt
    by_cases h0 : (rows.getD i []).length = 0
    · have e0 : ((rows.getD i []).length != 0) = false := bne_eq_false_iff_eq.2 h0
      rw [if_pos (by omega), signatoryref23_Check.j2, if_pos rfl, e0]; rfl
    · have e0 : ((rows.getD i []).length != 0) = true := bne_iff_ne.2 h0
      rw [if_neg (by omega), if_pos (by omega), e0]
      by_cases h1 : (rows.getD i []).length = (rows.getD 0 []).length
      · have e1 : ((rows.getD i []).length == (rows.getD 0 []).length) = true := beq_iff_eq.2 h1
        rw [if_pos (by omega), if_pos (by omega), e1]
        have hj := ref_l2 rows owners i (by omega) (by omega) hn k (rows.getD i []).length 0 (by omega) (by omega)
        rw [List.drop_zero, ih (i + 1) k (by omega) (by omega) (by omega)] at hj
        by_cases h2 : owners.getD i 0 < 0
        · rw [if_pos h2, signatoryref23_Check.j2, if_pos rfl, decide_eq_false (show ¬ 0 ≤ owners.getD i 0 by omega)]; rfl
        · rw [if_neg h2, signatoryref23_Check.j2, decide_eq_true (show 0 ≤ owners.getD i 0 by omega)]
          by_cases h3 : owners.getD i 0 ≥ 64
          · rw [decide_eq_true h3, if_pos rfl, decide_eq_false (show ¬ owners.getD i 0 ≤ 63 by omega)]; rfl
          · rw [decide_eq_false h3, if_neg (by decide), decide_eq_true (show owners.getD i 0 ≤ 63 by omega)]
            refine hj.trans ?_
            cases (rows.getD i []).any outQ <;> rfl
      · have e1 : ((rows.getD i []).length == (rows.getD 0 []).length) = false := beq_eq_false_iff_ne.2 h1
        rw [if_neg (by omega), signatoryref23_Check.j2, if_pos rfl, e1]; rfl
theorem ref_l0 (rows : List (List Int)) (owners : List Int) (hn : rows.length < 1000000) (k : Nat) : ∀ d j, rows.length - j = d → j ≤ rows.length →
    signatoryref23_Check.l0 (k + d + 1) (j : Int) rows owners = if (rows.drop j).any isLong then some 2 else if rows.length = owners.length then signatoryref23_Check.l1 k 0 rows owners else some 230 := by
  intro d
  induction d with
  | zero =>
    intro j hd hj
    obtain rfl : j = rows.length := by omega
    rw [signatoryref23_Check.l0, if_neg (by omega), List.drop_length]
    by_cases h : rows.length = owners.length
    · rw [if_pos (by omega), if_neg (by simp), if_pos h]
    · rw [if_neg (by omega), if_neg (by simp), if_neg h]
  | succ d ih =>
    intro j hd hj
    have hjr : j < rows.length := by omega
    have e2 : rows.getD j [] = rows[j] := by rw [List.getD_eq_getElem?_getD, List.getElem?_eq_getElem hjr]; rfl
    rw [signatoryref23_Check.l0, if_pos (by omega), if_pos (by omega), rd_L1_nat, e2, List.drop_eq_getElem_cons hjr, List.any_cons]
    generalize rows[j] = x
    unfold isLong
    by_cases h : 64 < x.length
    · rw [if_pos (by omega), decide_eq_true h]; rfl
    · rw [if_neg (by omega), decide_eq_false h, Bool.false_or, wrap_succ (by omega), ← Nat.add_assoc]
      exact ih (j + 1) (by omega) (by omega)
theorem refCheck_math (rows : List (List Int)) (owners : List Int) (k : Nat) (hk : 5000 ≤ k) : signatoryref23_Check.f k rows owners = some (checkP rows owners) := by
  unfold signatoryref23_Check.f checkP
  by_cases h : 64 < rows.length
  · rw [if_pos (by omega), decide_eq_true h]; rfl
  · rw [if_neg (by omega), decide_eq_false h, Bool.false_or]
    obtain ⟨k, rfl⟩ : ∃ k', k = k' + rows.length + 1 := ⟨k - rows.length - 1, by omega⟩
    have h0 := ref_l0 rows owners (by omega) k rows.length 0 (by omega) (by omega)
    rw [List.drop_zero] at h0
    refine h0.trans ?_
    cases hl : rows.any isLong with
    | true => rfl
    | false =>
      by_cases ho : rows.length = owners.length
      · have hl' : ∀ i, i < rows.length → (rows.getD i []).length ≤ 64 := fun i hi => by
          have := List.any_eq_false.1 hl _ (Sig.getD_mem hi)
          unfold isLong at this
          simp only [decide_eq_true_eq] at this
          omega
        have h1 := ref_l1 rows owners ho hl' (by omega) rows.length 0 k (by omega) (by omega) (by omega)
        rw [if_neg (by decide), if_pos ho, if_neg (by decide), if_pos ho]
        exact h1
      · rw [if_neg (by decide), if_neg ho, if_neg (by decide), if_neg ho]
end Go.Proofs.Ytdbamhckgaoibaa.P
namespace Go.Proofs.Ytdbamhckgaoibaa.P
open Go.RowKit Go.Proofs.YtdbamhckgaoibaaW.PrintWords Go.Proofs.YtdbamhckgaoibaaW.PrintLast Go.Proofs.YtdbamhckgaoibaaW.PrintMore
theorem colsRef_math {rows : List (List Int)} {owners : List Int} : signatoryref34_Columns.f rows owners = some (colsP rows : Int) := by
  unfold signatoryref34_Columns.f colsP
  by_cases h : rows.length = 0
  · rw [if_pos (by omega), if_pos h]; rfl
  · rw [if_neg (by omega), if_neg h, if_pos (by omega), rdL0]
end Go.Proofs.Ytdbamhckgaoibaa.P
namespace Go.Proofs.Ytdbamhckgaoibaa.P
open Go.RowKit Go.Proofs.YtdbamhckgaoibaaW.PrintWords Go.Proofs.YtdbamhckgaoibaaW.PrintLast Go.Proofs.YtdbamhckgaoibaaW.PrintMore
set_option linter.unusedVariables false
set_option linter.unusedSimpArgs false
theorem own_shrink {w : World} {base g n cap : Nat} {e : TypeId} {xs : List Value} (h : w.ownsRow base e 1 (.slice (some ⟨g, 0, none⟩) n cap) n xs) : w.ownsRow base e 1 (.slice (some ⟨g, 0, none⟩) 0 cap) 0 [] := by
  refine ⟨rfl, ?_⟩
  rcases h.2 with ⟨h1, _⟩ | ⟨g', cap', cur, h1, h2, h3, h4, h5, h6, h7⟩
  · cases h1
  · injection h1 with h1 _ h8
    injection h1 with h1
    injection h1 with h1
    subst h1 h8
    exact .inr ⟨g, cap, cur, rfl, h2, h3, Nat.zero_le _, h5, h6, by simp⟩
theorem grow_form {n base : Nat} {w1 : World} {v1 : Value} (h0 : 0 < n) (h1 : Kd.R (Kd.int .i64) 3 w1 base (fun _ => True) v1 ([] ++ List.replicate (n : Int).toNat 0)) :
    ∃ gv cap, v1 = .slice (some ⟨gv, 0, none⟩) n cap ∧ Aside0 (w1.ownsRow base 3 1 (.slice (some ⟨gv, 0, none⟩) 0 cap) 0 []) := by
  obtain ⟨inner, ho⟩ := Kd.R_own h1
  have hle : (([] : List Int) ++ List.replicate (n : Int).toNat (0 : Int)).length = n := by simp
  rw [hle] at ho
  obtain ⟨gv, cap, rfl⟩ : ∃ gv cap, v1 = .slice (some ⟨gv, 0, none⟩) n cap := by
    rcases ho.2 with ⟨_, h⟩ | ⟨gv, cap, cur, h, _⟩
    · omega
    · exact ⟨gv, cap, h⟩
  exact ⟨gv, cap, rfl, ⟨own_shrink ho⟩⟩
theorem ReadsInt_of_C {w : World} {A : Option Addr} {n : Nat} {xs : List Int} (h : Kd.C (Kd.int .i64) w A n xs) : ReadsInt w .i64 A n xs :=
  ⟨h.1, h.2.1, fun hn => by
    obtain ⟨ad, e, hx⟩ := Kd.at_int h 0 (Int.le_refl _) (by omega)
    refine ⟨ad, e, fun j hj => ?_⟩
    obtain ⟨ad', e', hx'⟩ := Kd.at_int h (j : Int) (by omega) (by omega)
    rw [e] at e'
    injection e' with e'
    subst e'
    rw [Int.toNat_natCast] at hx'
    rw [hx', rd_nat]⟩
set_option maxRecDepth 100000 in
set_option maxHeartbeats 1000000 in
theorem grow_nil (n : Nat) (w : World) (hn : n ≤ 1000000) : Calls Try.prog 163 #[.slice none 0 0, .int .i64 (n : Int)] w fun e w' => ∃ v, e = .returned v ∧ w'.ownsRow w.heap.size 3 1 v 0 [] ∧ Below w.heap.size w w' := by
  have c1 : decide ((n : Int) < 0) = false := decide_eq_false (by omega)
  by_cases h0 : 0 < n
  · have c2 : decide ((n : Int) > 0) = true := decide_eq_true (by omega)
    go_enter Try.func163, Try.ntmps163
    go_wp2_with (at_builtin; refine Kd.R_append_zeros (Kd.int .i64) (w0 := w) w.heap.size rfl _ _ 23 3 3 (.int .i64 0) 8 rfl (by kernel_rfl) (k := .i64) (by kernel_rfl) (by kernel_rfl) rfl (by decide) (by decide) (.slice none 0 0) [] (0 : Int) (n : Int) (fun _ => True) rfl rfl (by rfl) (fun _ _ => trivial) (Kd.R_nil _ _ _ _ _) (by omega) (Below.refl _ _) (Nat.le_refl _) (by simp; omega) ?_; intro v1 w1 h1 hB1 hg hat; obtain ⟨gv, cap, rfl, HO⟩ := grow_form h0 h1; have HB := Aside0.mk hB1; clear h1 hB1 hg hat)
    go_ret
    exact ⟨_, rfl, HO.out, HB.out⟩
  · obtain rfl : n = 0 := by omega
    go_enter Try.func163, Try.ntmps163
    go_wp2
    go_ret
    exact ⟨_, rfl, World.ownsRow_nil _ _ _ _, Below.refl _ _⟩
def sizesOf (l : List (List Int)) : Nat := (l.map List.length).sum
theorem sizes_take (l : List (List Int)) (j : Nat) (h : j < l.length) : sizesOf (l.take (j + 1)) = sizesOf (l.take j) + l[j].length := by
  unfold sizesOf
  rw [List.take_succ_eq_append_getElem h, List.map_append, List.sum_append]; simp
theorem sizes_le (l : List (List Int)) (j : Nat) : sizesOf (l.take j) ≤ sizesOf l := by
  unfold sizesOf
  conv => rhs; rw [← List.take_append_drop j l, List.map_append, List.sum_append]
  omega
theorem flatten_take (l : List (List Int)) (j : Nat) (h : j < l.length) : (l.take (j + 1)).flatten = (l.take j).flatten ++ l[j] := by
  rw [List.take_succ_eq_append_getElem h, List.flatten_append]; simp
theorem flatten_size (l : List (List Int)) : l.flatten.length = sizesOf l := by
  rw [List.length_flatten]; rfl
set_option maxRecDepth 100000 in
set_option maxHeartbeats 4000000 in
theorem concat_c (A0 : Option Addr) (c0 : Nat) (l : List (List Int)) (w : World) (hr : Kd.C (Kd.slice 3 (Kd.int .i64)) w A0 l.length l) (hs : sizesOf l ≤ 1000000) :
    Calls Try.prog 85 #[.slice A0 l.length c0] w fun e w' => ∃ v, e = .returned v ∧ w'.ownsRow w.heap.size 3 1 v l.flatten.length (nums .i64 l.flatten) ∧ Below w.heap.size w w' := by
  have HR := Aside0.mk hr
  have hlen : l.length ≤ 9223372036854775807 := hr.2.1
  have HG := Aside0.mk (fun (W : World) => grow_nil (sizesOf l) W hs)
  have HS := Aside0.mk hs
  clear hr hs
  go_enter Try.func85, Try.ntmps85
  go_wp2
  go_loopg [3, 11] l.length (fun gk v3 v11 w' => ∃ j : Nat, j ≤ l.length ∧ gk = l.length - j ∧ v11 = .int .i64 (j : Int) ∧ v3 = .int .i64 (sizesOf (l.take j) : Int) ∧ w = w')
  case atStart => exact ⟨0, Nat.zero_le _, rfl, rfl, rfl, rfl⟩
  case round =>
    obtain ⟨j, hj, rfl, rfl, rfl, hwe⟩ := hrel
    subst hwe
    by_cases hlt : j < l.length
    · have d1 : decide ((j : Int) < (l.length : Int)) = true := decide_eq_true (by omega)
      have d2 : decide (j < l.length) = true := decide_eq_true hlt
      have d4 : (0 : Int) ≤ (j : Int) := by omega
      obtain ⟨ad, A1, c3, e, hx, hx2, hx3⟩ := at_L1 HR.out (j : Int) (by omega) (by omega)
      cases e
      rw [Int.toNat_natCast, rd_L1_nat] at hx
      have e1 : l.getD j [] = l[j] := by rw [List.getD_eq_getElem?_getD, List.getElem?_eq_getElem hlt]; rfl
      rw [e1] at hx
      have hst := sizes_take l j hlt
      have hsl := sizes_le l (j + 1)
      have HST := Aside0.mk hst
      have hb : sizesOf (l.take j) + l[j].length ≤ 1000000 := by have := HS.out; omega
      generalize l[j].length = m at hx hst HST hb
      generalize sizesOf (l.take j) = sj at hst HST hb ⊢
      have d5 : decide (((sj : Int) + (m : Int)) < 0) = false := decide_eq_false (by omega)
      clear hx2 hx3 e1 hst hsl
      go_wp2
      go_roundg (l.length - (j + 1))
      case measure => omega
      case rel => exact ⟨j + 1, by omega, rfl, by first | rfl | rw [wrap_succ (by omega)], by rw [HST.out]; rfl, rfl⟩
    · obtain rfl : j = l.length := by omega
      have d1 : decide ((l.length : Int) < (l.length : Int)) = false := decide_eq_false (by omega)
      rw [List.take_length]
      go_wp2_with fail
      refine (HG.out _).mono ?_
      rintro e w1 ⟨v1, rfl, ho1, hb1⟩
      obtain ⟨vA, vc, rfl⟩ := own_len ho1
      have HO1 := Aside0.mk ho1
      have HB1 := Aside0.mk hb1
      clear ho1 hb1 HG
      go_wp2
      go_loopg [6, 27] l.length (fun gk v6 v27 w' => ∃ j : Nat, j ≤ l.length ∧ gk = l.length - j ∧ v27 = .int .i64 (j : Int) ∧ Aside0 (w'.ownsRow w.heap.size 3 1 v6 (l.take j).flatten.length (nums .i64 (l.take j).flatten)) ∧ Aside0 (Below w.heap.size w w'))
      case atStart => exact ⟨0, Nat.zero_le _, rfl, rfl, HO1, HB1⟩
      case round =>
        obtain ⟨j, hj, rfl, rfl, HO, HB⟩ := hrel
        by_cases hlt : j < l.length
        · have d1 : decide ((j : Int) < (l.length : Int)) = true := decide_eq_true (by omega)
          have d2 : decide (j < l.length) = true := decide_eq_true hlt
          have d4 : (0 : Int) ≤ (j : Int) := by omega
          obtain ⟨ad, A1, c3, e, hx, hx2, hx3⟩ := at_L1 HR.out (j : Int) (by omega) (by omega)
          cases e
          rw [Int.toNat_natCast, rd_L1_nat] at hx
          rw [rd_L1_nat] at hx2 hx3
          have e1 : l.getD j [] = l[j] := by rw [List.getD_eq_getElem?_getD, List.getElem?_eq_getElem hlt]; rfl
          rw [e1] at hx hx2 hx3
          replace hx := (HB.out.cell (World.block_lt_of_cell? w _ hx)).trans hx
          have HX3 := Aside0.mk (Kd.C_below hx3 HB.out)
          have hft := flatten_take l j hlt
          have HFT := Aside0.mk hft
          have hsz : ((l.take j).flatten.length + l[j].length) * 8 ≤ 140737488355328 := by
            have h1 := flatten_size (l.take (j + 1))
            rw [hft, List.length_append] at h1
            have := sizes_le l (j + 1)
            have := HS.out
            omega
          have HSZ := Aside0.mk hsz
          generalize l[j] = y at hx hx2 HX3 HFT HSZ
          clear hx3 e1 hft hsz
          obtain ⟨vA, vc, rfl⟩ := own_len HO.out
          go_wp2_with (at_builtin; refine print_append_row (w0 := w) w.heap.size rfl _ _ 23 3 .i64 8 rfl (by kernel_rfl) (by kernel_rfl) (by decide) _ (l.take j).flatten y A1 y.length c3 rfl rfl HO.out (ReadsInt_of_C HX3.out) HB.out HB.out.size HSZ.out ?_; intro v1 w2 h1 hB1 hg hat; have HO2 := Aside0.mk h1; have HB2 := Aside0.mk hB1; clear h1 hB1 hg hat)
          go_roundg (l.length - (j + 1))
          case measure => omega
          case rel => exact ⟨j + 1, by omega, rfl, by first | rfl | rw [wrap_succ (by omega)], ⟨by rw [HFT.out]; exact HO2.out⟩, HB2⟩
        · obtain rfl : j = l.length := by omega
          have d1 : decide ((l.length : Int) < (l.length : Int)) = false := decide_eq_false (by omega)
          have ho := HO.out
          rw [List.take_length] at ho
          have HO2 := Aside0.mk ho
          clear ho
          go_wp2
          go_ret
          exact ⟨_, rfl, HO2.out, HB.out⟩
def slices_Concat_int_int.f (l0 : List (List Int)) : Option (List Int) := if sizesOf l0 ≤ 1000000 then some l0.flatten else none
theorem slices_Concat_int_int.calls (A0 : Option Addr) (c0 : Nat) (l0 : List (List Int)) (r : List Int) (w : World) (hr0 : Kd.C (Kd.slice 3 (Kd.int .i64)) w A0 l0.length l0) (hc0 : l0.length ≤ c0) (h : slices_Concat_int_int.f l0 = some r) :
    Calls Try.prog 85 #[.slice A0 l0.length c0] w fun e w' => ∃ v0_ : Value, e = .returned v0_ ∧ Kd.R (Kd.int .i64) 3 w' w.heap.size (fun _ => True) v0_ r ∧ Below w.heap.size w w' := by
  unfold slices_Concat_int_int.f at h
  split at h
  · cases h
    refine (concat_c A0 c0 l0 w hr0 (by assumption)).mono ?_
    rintro e w' ⟨v, he, ho, hb⟩
    exact ⟨v, he, R_of_owns ho (fun _ _ => trivial), hb⟩
  · cases h
end Go.Proofs.Ytdbamhckgaoibaa.P
