/- A part of the proof of DealingHides: dealing.check, right, Public and Fits in plain words.; slices.Grow of nothing, slices.Concat.; dealing.Deal in plain words.; dealing.Deal, Public and Fits of what was dealt.; What comparing lists answers; and examples that the sanity functions ask, reckoned without any inverse but that of 1.; The sizes that the statements of chapter 34 speak of, and what they draw, in plain words.; dealing.Recover: the walk.; dealing.Public, Fits and Deal in the printer's form.; What is dealt is recovered: linear facts.; What program.Accepts and program.Refuses answer, in plain words; numbers that are moved by what Refuses answers.; rebuild.helpers: the rows of helpers, in turn, up to an index that is none.; slices.BinarySearch at []int; program.own: the rows of people, with their indices.; slices.Clone, slices.Contains and linear.copyOf at rows of whole numbers.; rebuild.Plan in plain words. -/
import Derived.Test.YtdbamhckgaoibaaZDH5
import Derived.Deep.RegionHeld3
import Derived.Lib.SliceRun
import Derived.Lib.SlicesSearch
import Derived.WalkKit
namespace Go.Proofs.Ytdbamhckgaoibaa.P
open Go.RowKit Go.Proofs.YtdbamhckgaoibaaW.PrintWords Go.Proofs.YtdbamhckgaoibaaW.PrintLast Go.Proofs.YtdbamhckgaoibaaW.PrintMore
set_option linter.unusedVariables false
theorem inQ_not (x : Int) : (!([x] : List Int).any outQ) = inQ x := by
  rw [Bool.eq_iff_iff]
  simp [outQ, inQ]
theorem ret_i {a b : Int} (h : b = a) : Ending.returned (.int .i64 a) = .returned (.int .i64 b) := by rw [h]
theorem ret_ii {a b : Int} {p : Int × Int} (h : p = (a, b)) : Ending.returned (.tuple #[.int .i64 a, .int .i64 b]) = .returned (.tuple #[.int .i64 p.1, .int .i64 p.2]) := by rw [h]
theorem ret_bi {a : Bool} {b : Int} {p : Bool × Int} (h : p = (a, b)) : Ending.returned (.tuple #[.bool a, .int .i64 b]) = .returned (.tuple #[.bool p.1, .int .i64 p.2]) := by rw [h]
theorem ret_b {a b : Bool} (h : b = a) : Ending.returned (.bool a) = .returned (.bool b) := by rw [h]
def checkD (rows : List (List Int)) (owners cm : List Int) : Int := if checkP rows owners = 0 then (if cm.length = colsP rows ∧ cm.any noEl = false then 0 else 340) else checkP rows owners
set_option maxHeartbeats 1000000 in
theorem dcheck_w {A0 A1 A2 : Option Addr} {c0 c1 c2 : Nat} {rows : List (List Int)} {owners : List Int} {cm : List Int} {w : World} (h0 : Sl (Kd.slice 3 (Kd.int .i64)) w A0 c0 rows) (h1 : Sl (Kd.int .i64) w A1 c1 owners) (h2 : Sl (Kd.int .i64) w A2 c2 cm) :
    Calls Try.prog 100 #[.agg #[.slice A0 rows.length c0, .slice A1 owners.length c1], .slice A2 cm.length c2] w fun e w' => e = .returned (.int .i64 (checkD rows owners cm)) ∧ Below w.heap.size w w' := by
  have H_rows := Aside0.mk h0
  have H_own := Aside0.mk h1
  have H_cm := Aside0.mk h2
  have HB := Aside0.mk (Below.refl w.heap.size w)
  clear h0 h1 h2
  obtain ⟨t, ht⟩ : ∃ t, t = checkP rows owners := ⟨_, rfl⟩
  have HD : Aside0 (checkD rows owners cm = if t = 0 then (if cm.length = colsP rows ∧ cm.any noEl = false then 0 else 340) else t) := ⟨by rw [ht]; rfl⟩
  have HK : Aside0 (∀ W, Sl (Kd.slice 3 (Kd.int .i64)) W A0 c0 rows → Sl (Kd.int .i64) W A1 c1 owners → Calls Try.prog 82 #[.agg #[.slice A0 rows.length c0, .slice A1 owners.length c1]] W fun e w' => e = .returned (.int .i64 t) ∧ Below W.heap.size W w') := ⟨fun W g0 g1 => by rw [ht]; exact program_Check.calls 66 A0 c0 rows A1 c1 owners _ W g0.rd g0.le g1.rd g1.le (check_math rows owners 66 (Nat.le_refl _))⟩
  clear ht
  rcases Decidable.em (t = 0) with h | h
  · skip
    subst h
    go_enter Try.func100, Try.ntmps100
    go_wp2_with fail
    obtain ⟨w1, hw⟩ : ∃ W_, W_ = w.alloc (.cells #[.slice A0 rows.length c0, .slice A1 owners.length c1] 25) := ⟨_, rfl⟩
    rw [← hw]
    have hb : Below w.heap.size w w1 := by rw [hw]; exact below_alloc1 _ _
    have hz : w.heap.size = w.heap.size := rfl
    have hs : w1.heap.size = w.heap.size + 1 := by rw [hw, ← hz]; simp
    replace H_rows := Aside0.mk (H_rows.out.below hb)
    replace H_own := Aside0.mk (H_own.out.below hb)
    replace H_cm := Aside0.mk (H_cm.out.below hb)
    replace HB := Aside0.mk (below_then HB.out HB.out.size hb)
    have H_two0 := Aside0.mk (⟨by rw [hw, ← hz]; simp only [World.cell?]; rw [World.alloc_heap_new]; rfl, by rw [hs]; omega⟩ : w1.cell? ⟨w.heap.size, 0, none⟩ = some (.slice A0 rows.length c0) ∧ w.heap.size < w1.heap.size)
    have H_two1 := Aside0.mk (⟨by rw [hw, ← hz]; simp only [World.cell?]; rw [World.alloc_heap_new]; rfl, by rw [hs]; omega⟩ : w1.cell? ⟨w.heap.size, 1, none⟩ = some (.slice A1 owners.length c1) ∧ w.heap.size < w1.heap.size)
    clear hw hb hz
    have HZ := Aside0.mk hs; clear hs
    refine (HK.out _ H_rows.out H_own.out).mono ?_
    rintro e w2 ⟨rfl, hb⟩
    replace H_rows := Aside0.mk (H_rows.out.below hb)
    replace H_own := Aside0.mk (H_own.out.below hb)
    replace H_cm := Aside0.mk (H_cm.out.below hb)
    replace H_two0 := Aside0.mk (cell_on H_two0.out hb)
    replace H_two1 := Aside0.mk (cell_on H_two1.out hb)
    replace HB := Aside0.mk (below_then HB.out HB.out.size hb)
    clear hb
    have HC := Aside0.mk (fun W (g0 : Sl (Kd.slice 3 (Kd.int .i64)) W A0 c0 rows) (g1 : Sl (Kd.int .i64) W A1 c1 owners) => dealing_columns.calls A0 c0 rows A1 c1 owners (colsP rows : Int) W g0.rd g0.le g1.rd g1.le cols_math)
    generalize colsP rows = n at HC HD
    by_cases hn : cm.length = n
    · skip
      have q1 : ((cm.length : Int) == (n : Int)) = true := beq_iff_eq.mpr (by omega)
      have q2 : ((cm.length : Int) != (n : Int)) = false := bne_eq_false_iff_eq.mpr (by omega)
      have HN := Aside0.mk hn; clear hn
      have x_two0 := H_two0.out.1
      have x_two1 := H_two1.out.1
      go_wp2_with fail
      clear x_two0 x_two1
      refine (HC.out _ H_rows.out H_own.out).mono ?_
      rintro e w3 ⟨rfl, hb⟩
      replace H_rows := Aside0.mk (H_rows.out.below hb)
      replace H_own := Aside0.mk (H_own.out.below hb)
      replace H_cm := Aside0.mk (H_cm.out.below hb)
      replace H_two0 := Aside0.mk (cell_on H_two0.out hb)
      replace H_two1 := Aside0.mk (cell_on H_two1.out hb)
      replace HB := Aside0.mk (below_then HB.out HB.out.size hb)
      clear hb
      have HE := Aside0.mk (contains_noEl.calls A2 c2 cm (cm.any noEl) w3 H_cm.out.rd H_cm.out.le rfl)
      generalize cm.any noEl = b at HE HD
      go_wp2_with fail
      refine HE.out.mono ?_
      rintro e w9 ⟨rfl, hd⟩
      have HB := Aside0.mk (below_then HB.out HB.out.size hd.below)
      clear hd HE
      cases b with
      | true => go_wp2; go_ret; exact ⟨ret_i (by have h_ := HD.out; simp [HN.out] at h_; exact h_), HB.out⟩
      | false => go_wp2; go_ret; exact ⟨ret_i (by have h_ := HD.out; simp [HN.out] at h_; exact h_), HB.out⟩
    · skip
      have q1 : ((cm.length : Int) == (n : Int)) = false := beq_eq_false_iff_ne.mpr (by omega)
      have q2 : ((cm.length : Int) != (n : Int)) = true := bne_iff_ne.mpr (by omega)
      have HN := Aside0.mk hn
      have x_two0 := H_two0.out.1
      have x_two1 := H_two1.out.1
      go_wp2_with fail
      clear x_two0 x_two1
      refine (HC.out _ H_rows.out H_own.out).mono ?_
      rintro e w3 ⟨rfl, hb⟩
      replace H_rows := Aside0.mk (H_rows.out.below hb)
      replace H_own := Aside0.mk (H_own.out.below hb)
      replace H_cm := Aside0.mk (H_cm.out.below hb)
      replace H_two0 := Aside0.mk (cell_on H_two0.out hb)
      replace H_two1 := Aside0.mk (cell_on H_two1.out hb)
      replace HB := Aside0.mk (below_then HB.out HB.out.size hb)
      clear hb
      go_wp2
      go_ret
      exact ⟨ret_i (by have h_ := HD.out; simp [HN.out] at h_; exact h_), HB.out⟩
  · skip
    have q1 : (t == 0) = false := beq_eq_false_iff_ne.mpr h
    have q2 : (t != 0) = true := bne_iff_ne.mpr h
    have HN := Aside0.mk h
    go_enter Try.func100, Try.ntmps100
    go_wp2_with fail
    obtain ⟨w1, hw⟩ : ∃ W_, W_ = w.alloc (.cells #[.slice A0 rows.length c0, .slice A1 owners.length c1] 25) := ⟨_, rfl⟩
    rw [← hw]
    have hb : Below w.heap.size w w1 := by rw [hw]; exact below_alloc1 _ _
    have hz : w.heap.size = w.heap.size := rfl
    have hs : w1.heap.size = w.heap.size + 1 := by rw [hw, ← hz]; simp
    replace H_rows := Aside0.mk (H_rows.out.below hb)
    replace H_own := Aside0.mk (H_own.out.below hb)
    replace H_cm := Aside0.mk (H_cm.out.below hb)
    replace HB := Aside0.mk (below_then HB.out HB.out.size hb)
    have H_two0 := Aside0.mk (⟨by rw [hw, ← hz]; simp only [World.cell?]; rw [World.alloc_heap_new]; rfl, by rw [hs]; omega⟩ : w1.cell? ⟨w.heap.size, 0, none⟩ = some (.slice A0 rows.length c0) ∧ w.heap.size < w1.heap.size)
    have H_two1 := Aside0.mk (⟨by rw [hw, ← hz]; simp only [World.cell?]; rw [World.alloc_heap_new]; rfl, by rw [hs]; omega⟩ : w1.cell? ⟨w.heap.size, 1, none⟩ = some (.slice A1 owners.length c1) ∧ w.heap.size < w1.heap.size)
    clear hw hb hz
    have HZ := Aside0.mk hs; clear hs
    refine (HK.out _ H_rows.out H_own.out).mono ?_
    rintro e w2 ⟨rfl, hb⟩
    replace H_rows := Aside0.mk (H_rows.out.below hb)
    replace H_own := Aside0.mk (H_own.out.below hb)
    replace H_cm := Aside0.mk (H_cm.out.below hb)
    replace H_two0 := Aside0.mk (cell_on H_two0.out hb)
    replace H_two1 := Aside0.mk (cell_on H_two1.out hb)
    replace HB := Aside0.mk (below_then HB.out HB.out.size hb)
    clear hb
    go_wp2
    go_ret
    exact ⟨ret_i (by rw [HD.out, if_neg HN.out]), HB.out⟩
set_option maxHeartbeats 1000000 in
theorem right_w {A0 A1 : Option Addr} {c0 c1 : Nat} {rows : List (List Int)} {owners : List Int} {f0 f1 : Int} {w : World} (h0 : Sl (Kd.slice 3 (Kd.int .i64)) w A0 c0 rows) (h1 : Sl (Kd.int .i64) w A1 c1 owners) :
    Calls Try.prog 91 #[.agg #[.slice A0 rows.length c0, .slice A1 owners.length c1], .agg #[.int .i64 f0, .int .i64 f1]] w fun e w' => e = .returned (.bool (rightS rows.length ⟨f0, f1⟩)) ∧ Below w.heap.size w w' := by
  by_cases g0 : 0 ≤ f0
  · by_cases g1 : f0 < (rows.length : Int)
    · have HR : Aside0 (rightS rows.length ⟨f0, f1⟩ = !([f1] : List Int).any outQ) := ⟨by unfold rightS; rw [inQ_not, decide_eq_true g0, decide_eq_true g1]; rfl⟩
      have H_rows := Aside0.mk h0
      clear h0 h1
      go_enter Try.func91, Try.ntmps91
      go_wp2_with fail
      have HB := Aside0.mk (Below.refl w.heap.size w)
      obtain ⟨w1, hw⟩ : ∃ W_, W_ = w.alloc (.cells #[.slice A0 rows.length c0, .slice A1 owners.length c1] 25) := ⟨_, rfl⟩
      rw [← hw]
      have hb : Below w.heap.size w w1 := by rw [hw]; exact below_alloc1 _ _
      have hz : w.heap.size = w.heap.size := rfl
      have hs : w1.heap.size = w.heap.size + 1 := by rw [hw, ← hz]; simp
      replace HB := Aside0.mk (below_then HB.out HB.out.size hb)
      have H_two0 := Aside0.mk (⟨by rw [hw, ← hz]; simp only [World.cell?]; rw [World.alloc_heap_new]; rfl, by rw [hs]; omega⟩ : w1.cell? ⟨w.heap.size, 0, none⟩ = some (.slice A0 rows.length c0) ∧ w.heap.size < w1.heap.size)
      have H_two1 := Aside0.mk (⟨by rw [hw, ← hz]; simp only [World.cell?]; rw [World.alloc_heap_new]; rfl, by rw [hs]; omega⟩ : w1.cell? ⟨w.heap.size, 1, none⟩ = some (.slice A1 owners.length c1) ∧ w.heap.size < w1.heap.size)
      clear hw hb hz
      have HZ := Aside0.mk hs; clear hs
      obtain ⟨w2, hw⟩ : ∃ W_, W_ = w1.alloc (.cells #[.int .i64 f0, .int .i64 f1] 38) := ⟨_, rfl⟩
      rw [← hw]
      have hb : Below w1.heap.size w1 w2 := by rw [hw]; exact below_alloc1 _ _
      have hz : w1.heap.size = w.heap.size + 1 := HZ.out
      have hs : w2.heap.size = w.heap.size + 1 + 1 := by rw [hw, ← hz]; simp
      replace H_two0 := Aside0.mk (cell_on H_two0.out hb)
      replace H_two1 := Aside0.mk (cell_on H_two1.out hb)
      replace HB := Aside0.mk (below_then HB.out HB.out.size hb)
      have H_sh0 := Aside0.mk (⟨by rw [hw, ← hz]; simp only [World.cell?]; rw [World.alloc_heap_new]; rfl, by rw [hs]; omega⟩ : w2.cell? ⟨w.heap.size + 1, 0, none⟩ = some (.int .i64 f0) ∧ w.heap.size + 1 < w2.heap.size)
      have H_sh1 := Aside0.mk (⟨by rw [hw, ← hz]; simp only [World.cell?]; rw [World.alloc_heap_new]; rfl, by rw [hs]; omega⟩ : w2.cell? ⟨w.heap.size + 1, 1, none⟩ = some (.int .i64 f1) ∧ w.heap.size + 1 < w2.heap.size)
      clear hw hb hz
      have HZ := Aside0.mk hs; clear hs
      obtain ⟨w3, hw⟩ : ∃ W_, W_ = w2.alloc (.cells #[.int .i64 f1] 3) := ⟨_, rfl⟩
      rw [← hw]
      have hb : Below w2.heap.size w2 w3 := by rw [hw]; exact below_alloc1 _ _
      have hz : w2.heap.size = w.heap.size + 1 + 1 := HZ.out
      have hs : w3.heap.size = w.heap.size + 1 + 1 + 1 := by rw [hw, ← hz]; simp
      have hl : Sl (Kd.int .i64) w3 (some ⟨w.heap.size + 1 + 1, 0, none⟩) 1 [f1] := by rw [hw, ← hz]; exact Sl.ints w2 3 [f1] (by show 1 ≤ 1000000; decide)
      replace H_two0 := Aside0.mk (cell_on H_two0.out hb)
      replace H_two1 := Aside0.mk (cell_on H_two1.out hb)
      replace H_sh0 := Aside0.mk (cell_on H_sh0.out hb)
      replace H_sh1 := Aside0.mk (cell_on H_sh1.out hb)
      replace HB := Aside0.mk (below_then HB.out HB.out.size hb)
      have H_n1 := Aside0.mk hl; clear hl
      clear hw hb hz
      have HZ := Aside0.mk hs; clear hs
      refine (dealing_numbers.calls _ _ [f1] (!([f1] : List Int).any outQ) _ H_n1.out.rd H_n1.out.le (by unfold dealing_numbers.f contains_outQ.f; rfl)).mono ?_
      rintro e w9 ⟨rfl, hd⟩
      have HB := Aside0.mk (below_then HB.out HB.out.size hd.below)
      clear hd
      generalize hq : (!([f1] : List Int).any outQ) = q
      have HQ := Aside0.mk hq; clear hq
      go_wp2
      go_ret
      exact ⟨ret_b (by rw [HR.out, ← HQ.out]), HB.out⟩
    · have HR : Aside0 (rightS rows.length ⟨f0, f1⟩ = false) := ⟨by unfold rightS; rw [decide_eq_false g1, Bool.and_false, Bool.false_and]⟩
      have H_rows := Aside0.mk h0
      clear h0 h1
      go_enter Try.func91, Try.ntmps91
      go_wp2
      go_ret
      exact ⟨ret_b HR.out, (((Below.refl _ _).alloc (Nat.le_refl _) _).alloc (by simp) _)⟩
  · have HR : Aside0 (rightS rows.length ⟨f0, f1⟩ = false) := ⟨by unfold rightS; rw [decide_eq_false g0, Bool.false_and, Bool.false_and]⟩
    have H_rows := Aside0.mk h0
    clear h0 h1
    go_enter Try.func91, Try.ntmps91
    go_wp2
    go_ret
    exact ⟨ret_b HR.out, (((Below.refl _ _).alloc (Nat.le_refl _) _).alloc (by simp) _)⟩
def pubFrom : Int → List Int → List Int → Int
  | x, c :: cs, e :: es => pubFrom (x * (c ^ (e % 1073741789).toNat % 2147483579) % 2147483579) cs es
  | x, _, _ => x
def publicD (rows : List (List Int)) (owners cm : List Int) (row : Int) : Int × Int :=
  if checkD rows owners cm = 0 then (if 0 ≤ row ∧ row < rows.length then (pubFrom 1 cm (rows.getD row.toNat []), 0) else (0, 1)) else (0, checkD rows owners cm)
theorem el_one : isEl 1 = true := by
  rw [isEl_iff, Int.one_pow]
  exact ⟨by decide, by decide, by decide⟩
theorem el_powI {c : Int} (h : isEl c = true) (v : Int) : isEl (c ^ (v % 1073741789).toNat % 2147483579) = true := el_pow h _
theorem noEl_all {cm : List Int} (h : cm.any noEl = false) : ∀ c ∈ cm, isEl c = true := fun c hc => by
  have := List.any_eq_false.1 h c hc
  unfold noEl at this
  simpa using this
theorem dcheck_ok {rows : List (List Int)} {owners cm : List Int} (h : checkD rows owners cm = 0) : checkP rows owners = 0 ∧ cm.length = colsP rows ∧ ∀ c ∈ cm, isEl c = true := by
  unfold checkD at h
  split at h
  · rename_i h1
    split at h
    · rename_i h2
      exact ⟨h1, h2.1, noEl_all h2.2⟩
    · cases h
  · rename_i h1
    exact absurd h h1
theorem dcheck_right {rows : List (List Int)} {owners cm : List Int} (h : checkD rows owners cm = 0) {j : Nat} (hj : j < rows.length) : (rows.getD j []).length = cm.length ∧ ∀ c ∈ cm, isEl c = true := by
  obtain ⟨h1, h2, h3⟩ := dcheck_ok h
  have hP := check_ok h1
  refine ⟨?_, h3⟩
  rw [h2, colsP, if_neg (by omega)]
  exact (hP.row j hj).2.1
theorem pub_step {x : Int} {cm row : List Int} {i : Nat} (hx : isEl x = true) (hi : i < cm.length) (hl : row.length = cm.length) (he : ∀ c ∈ cm, isEl c = true) :
    isEl (x * (cm.getD i 0 ^ (row.getD i 0 % 1073741789).toNat % 2147483579) % 2147483579) = true ∧ pubFrom (x * (cm.getD i 0 ^ (row.getD i 0 % 1073741789).toNat % 2147483579) % 2147483579) (cm.drop (i + 1)) (row.drop (i + 1)) = pubFrom x (cm.drop i) (row.drop i) := by
  have h1 : cm.getD i 0 = cm[i] := by rw [List.getD_eq_getElem?_getD, List.getElem?_eq_getElem hi]; rfl
  have h2 : row.getD i 0 = row[i] := by rw [List.getD_eq_getElem?_getD, List.getElem?_eq_getElem (by omega)]; rfl
  rw [h1, h2]
  refine ⟨el_mul hx (el_powI (he _ (List.getElem_mem hi)) _), ?_⟩
  rw [List.drop_eq_getElem_cons hi, List.drop_eq_getElem_cons (show i < row.length by omega), pubFrom]
set_option maxRecDepth 100000 in
set_option maxHeartbeats 4000000 in
theorem public_w {A0 A1 A2 : Option Addr} {c0 c1 c2 : Nat} {rows : List (List Int)} {owners : List Int} {cm : List Int} {row : Int} {w : World} (h0 : Sl (Kd.slice 3 (Kd.int .i64)) w A0 c0 rows) (h1 : Sl (Kd.int .i64) w A1 c1 owners) (h2 : Sl (Kd.int .i64) w A2 c2 cm) :
    Calls Try.prog 28 #[.agg #[.slice A0 rows.length c0, .slice A1 owners.length c1], .slice A2 cm.length c2, .int .i64 row] w fun e w' => e = .returned (.tuple #[.int .i64 (publicD rows owners cm row).1, .int .i64 (publicD rows owners cm row).2]) ∧ Below w.heap.size w w' := by
  have H_rows := Aside0.mk h0
  have H_own := Aside0.mk h1
  have H_cm := Aside0.mk h2
  have HB := Aside0.mk (Below.refl w.heap.size w)
  clear h0 h1 h2
  obtain ⟨t, ht⟩ : ∃ t, t = checkD rows owners cm := ⟨_, rfl⟩
  have HP : Aside0 (publicD rows owners cm row = if t = 0 then (if 0 ≤ row ∧ row < rows.length then (pubFrom 1 cm (rows.getD row.toNat []), 0) else (0, 1)) else (0, t)) := ⟨by rw [ht]; rfl⟩
  have HK : Aside0 (∀ W, Sl (Kd.slice 3 (Kd.int .i64)) W A0 c0 rows → Sl (Kd.int .i64) W A1 c1 owners → Sl (Kd.int .i64) W A2 c2 cm → Calls Try.prog 100 #[.agg #[.slice A0 rows.length c0, .slice A1 owners.length c1], .slice A2 cm.length c2] W fun e w' => e = .returned (.int .i64 t) ∧ Below W.heap.size W w') := ⟨fun W g0 g1 g2 => by rw [ht]; exact dcheck_w g0 g1 g2⟩
  rcases Decidable.em (t = 0) with h | h
  · skip
    have hd0 : checkD rows owners cm = 0 := ht.symm.trans h
    have HD0 := Aside0.mk hd0; clear ht hd0
    subst h
    by_cases g0 : 0 ≤ row
    · skip
      by_cases g1 : row < (rows.length : Int)
      · skip
        have HPP : Aside0 (publicD rows owners cm row = (pubFrom 1 cm (rows.getD row.toNat []), 0)) := ⟨by rw [HP.out, if_pos rfl, if_pos ⟨g0, g1⟩]⟩
        clear HP
        go_enter Try.func28, Try.ntmps28
        go_wp2_with fail
        obtain ⟨w1, hw⟩ : ∃ W_, W_ = w.alloc (.cells #[.slice A0 rows.length c0, .slice A1 owners.length c1] 25) := ⟨_, rfl⟩
        rw [← hw]
        have hb : Below w.heap.size w w1 := by rw [hw]; exact below_alloc1 _ _
        have hz : w.heap.size = w.heap.size := rfl
        have hs : w1.heap.size = w.heap.size + 1 := by rw [hw, ← hz]; simp
        replace H_rows := Aside0.mk (H_rows.out.below hb)
        replace H_own := Aside0.mk (H_own.out.below hb)
        replace H_cm := Aside0.mk (H_cm.out.below hb)
        replace HB := Aside0.mk (below_then HB.out HB.out.size hb)
        have H_two0 := Aside0.mk (⟨by rw [hw, ← hz]; simp only [World.cell?]; rw [World.alloc_heap_new]; rfl, by rw [hs]; omega⟩ : w1.cell? ⟨w.heap.size, 0, none⟩ = some (.slice A0 rows.length c0) ∧ w.heap.size < w1.heap.size)
        have H_two1 := Aside0.mk (⟨by rw [hw, ← hz]; simp only [World.cell?]; rw [World.alloc_heap_new]; rfl, by rw [hs]; omega⟩ : w1.cell? ⟨w.heap.size, 1, none⟩ = some (.slice A1 owners.length c1) ∧ w.heap.size < w1.heap.size)
        clear hw hb hz
        have HZ := Aside0.mk hs; clear hs
        refine (HK.out _ H_rows.out H_own.out H_cm.out).mono ?_
        rintro e w2 ⟨rfl, hb⟩
        replace H_rows := Aside0.mk (H_rows.out.below hb)
        replace H_own := Aside0.mk (H_own.out.below hb)
        replace H_cm := Aside0.mk (H_cm.out.below hb)
        replace H_two0 := Aside0.mk (cell_on H_two0.out hb)
        replace H_two1 := Aside0.mk (cell_on H_two1.out hb)
        replace HB := Aside0.mk (below_then HB.out HB.out.size hb)
        clear hb
        obtain ⟨j, hj⟩ : ∃ j : Nat, (j : Int) = row := ⟨row.toNat, by omega⟩
        subst hj
        rw [Int.toNat_natCast] at HPP
        obtain ⟨q1, q2⟩ := dcheck_right HD0.out (show j < rows.length by omega)
        have HQ1 := Aside0.mk q1; have HQ2 := Aside0.mk q2; clear q1 q2 HK
        have g3 : decide (j < rows.length) = true := decide_eq_true (by omega)
        have n0 : decide ((j : Int) < 0) = false := decide_eq_false (by omega)
        have n1 : decide (rows.length ≤ j) = false := decide_eq_false (by omega)
        have x0 := H_two0.out.1
        go_wp2_with fail
        clear x0
        obtain ⟨Wr, hWr⟩ : ∃ W_, W_ = w2 := ⟨_, rfl⟩
        rw [← hWr] at H_rows H_cm H_two0 HB ⊢
        clear hWr
        go_loopg [6, 30] cm.length (fun gk v6 v30 wr => ∃ (i : Nat) (x : Int), i ≤ cm.length ∧ gk = cm.length - i ∧ v30 = .int .i64 (i : Int) ∧ v6 = .int .i64 x ∧ Aside0 (isEl x = true ∧ pubFrom x (cm.drop i) ((rows.getD j []).drop i) = pubFrom 1 cm (rows.getD j []) ∧ Below Wr.heap.size Wr wr))
        case atStart => exact ⟨0, 1, Nat.zero_le _, rfl, rfl, rfl, ⟨el_one, rfl, Below.refl _ _⟩⟩
        case round =>
          obtain ⟨i, x, hi, rfl, rfl, rfl, HX⟩ := hrel
          by_cases hlt : i < cm.length
          · have d1 : decide ((i : Int) < (cm.length : Int)) = true := decide_eq_true (by omega)
            have d2 : decide (i < cm.length) = true := decide_eq_true hlt
            have d3 : (0 : Int) ≤ (i : Int) := by omega
            obtain ⟨ad, e, y1⟩ := Kd.at_int H_cm.out.rd (i : Int) (by omega) (by omega)
            cases e
            obtain ⟨ar, Ar, cr, e, z1, z2, z3⟩ := at_L1 H_rows.out.rd (j : Int) (by omega) (by omega)
            cases e
            rw [rd_L1_nat] at z1 z2 z3
            rw [rd_nat] at y1
            rw [Int.toNat_natCast] at y1 z1
            obtain ⟨ae, e, u1⟩ := Kd.at_int z3 (i : Int) (by omega) (by have := HQ1.out; omega)
            cases e
            rw [rd_nat, Int.toNat_natCast] at u1
            have hstep := pub_step HX.out.1 hlt HQ1.out HQ2.out
            rw [HX.out.2.1] at hstep
            have HB2 := HX.out.2.2
            replace y1 := (HB2.cell (World.block_lt_of_cell? Wr _ y1)).trans y1
            replace z1 := (HB2.cell (World.block_lt_of_cell? Wr _ z1)).trans z1
            replace u1 := (HB2.cell (World.block_lt_of_cell? Wr _ u1)).trans u1
            have x0 := (HB2.cell (p := ⟨w.heap.size, 0, none⟩) H_two0.out.2).trans H_two0.out.1
            have hl := HQ1.out
            have HE := Aside0.mk (HQ2.out (cm.getD i 0) (by rw [List.getD_eq_getElem?_getD, List.getElem?_eq_getElem hlt]; exact List.getElem_mem hlt))
            generalize cm.getD i 0 = c at y1 hstep HE
            generalize (rows.getD j []).getD i 0 = v at u1 hstep
            have d4 : decide (i < (rows.getD j []).length) = true := decide_eq_true (by omega)
            have d5 : (i : Int) < ((rows.getD j []).length : Int) := by omega
            generalize (rows.getD j []).length = n at z1 hl d4 d5
            have HL := Aside0.mk hl; have HST := Aside0.mk hstep; have HBB := Aside0.mk HB2; have HXE := Aside0.mk HX.out.1
            clear z2 z3 hl hstep HB2 HX
            go_wp2_with fail
            refine (group_Pow.calls c v _ _ _ (pow_el HE.out v)).mono ?_
            rintro e wa ⟨rfl, hb⟩
            have HBB2 := Aside0.mk (below_then HBB.out HBB.out.size hb)
            have HEP := Aside0.mk (el_powI HE.out v)
            generalize c ^ (v % 1073741789).toNat % 2147483579 = y at HEP HST
            clear hb x0 y1 z1 u1 HBB
            go_wp2_with fail
            refine (group_Mul.calls x y _ _ _ (mul_els HXE.out HEP.out)).mono ?_
            rintro e wb ⟨rfl, hd⟩
            have HB3 := Aside0.mk (below_then HBB2.out HBB2.out.size hd.below)
            clear hd HBB2
            go_wp2
            go_roundg (cm.length - (i + 1))
            case measure => omega
            case rel => exact ⟨i + 1, x * y % 2147483579, by omega, rfl, by first | rfl | rw [wrap_nextB (by have := H_cm.out.rd.2.1; omega)], rfl, ⟨HST.out.1, HST.out.2, HB3.out⟩⟩
          · obtain rfl : i = cm.length := by omega
            have d1 : decide ((cm.length : Int) < (cm.length : Int)) = false := decide_eq_false (by omega)
            have hx := HX.out.2.1
            rw [List.drop_length] at hx
            have hx : x = pubFrom 1 cm (rows.getD j []) := hx
            have HXX := Aside0.mk hx; clear hx
            go_wp2
            go_ret2
            exact ⟨ret_ii (by rw [HPP.out, ← HXX.out]), below_then HB.out HB.out.size HX.out.2.2⟩
      · skip
        have HPP : Aside0 (publicD rows owners cm row = (0, 1)) := ⟨by rw [HP.out, if_pos rfl, if_neg (fun q => g1 q.2)]⟩
        clear HP
        have n0 : decide (row < 0) = false := decide_eq_false (by omega)
        have n1 : decide ((rows.length : Int) ≤ row) = true := decide_eq_true (by omega)
        clear g0 g1
        go_enter Try.func28, Try.ntmps28
        go_wp2_with fail
        obtain ⟨w1, hw⟩ : ∃ W_, W_ = w.alloc (.cells #[.slice A0 rows.length c0, .slice A1 owners.length c1] 25) := ⟨_, rfl⟩
        rw [← hw]
        have hb : Below w.heap.size w w1 := by rw [hw]; exact below_alloc1 _ _
        have hz : w.heap.size = w.heap.size := rfl
        have hs : w1.heap.size = w.heap.size + 1 := by rw [hw, ← hz]; simp
        replace H_rows := Aside0.mk (H_rows.out.below hb)
        replace H_own := Aside0.mk (H_own.out.below hb)
        replace H_cm := Aside0.mk (H_cm.out.below hb)
        replace HB := Aside0.mk (below_then HB.out HB.out.size hb)
        have H_two0 := Aside0.mk (⟨by rw [hw, ← hz]; simp only [World.cell?]; rw [World.alloc_heap_new]; rfl, by rw [hs]; omega⟩ : w1.cell? ⟨w.heap.size, 0, none⟩ = some (.slice A0 rows.length c0) ∧ w.heap.size < w1.heap.size)
        have H_two1 := Aside0.mk (⟨by rw [hw, ← hz]; simp only [World.cell?]; rw [World.alloc_heap_new]; rfl, by rw [hs]; omega⟩ : w1.cell? ⟨w.heap.size, 1, none⟩ = some (.slice A1 owners.length c1) ∧ w.heap.size < w1.heap.size)
        clear hw hb hz
        have HZ := Aside0.mk hs; clear hs
        refine (HK.out _ H_rows.out H_own.out H_cm.out).mono ?_
        rintro e w2 ⟨rfl, hb⟩
        replace H_rows := Aside0.mk (H_rows.out.below hb)
        replace H_own := Aside0.mk (H_own.out.below hb)
        replace H_cm := Aside0.mk (H_cm.out.below hb)
        replace H_two0 := Aside0.mk (cell_on H_two0.out hb)
        replace H_two1 := Aside0.mk (cell_on H_two1.out hb)
        replace HB := Aside0.mk (below_then HB.out HB.out.size hb)
        clear hb
        have x_two0 := H_two0.out.1
        go_wp2
        go_ret2
        exact ⟨ret_ii HPP.out, HB.out⟩
    · skip
      have HPP : Aside0 (publicD rows owners cm row = (0, 1)) := ⟨by rw [HP.out, if_pos rfl, if_neg (fun q => g0 q.1)]⟩
      clear HP
      have n0 : decide (row < 0) = true := decide_eq_true (by omega)
      clear g0
      go_enter Try.func28, Try.ntmps28
      go_wp2_with fail
      obtain ⟨w1, hw⟩ : ∃ W_, W_ = w.alloc (.cells #[.slice A0 rows.length c0, .slice A1 owners.length c1] 25) := ⟨_, rfl⟩
      rw [← hw]
      have hb : Below w.heap.size w w1 := by rw [hw]; exact below_alloc1 _ _
      have hz : w.heap.size = w.heap.size := rfl
      have hs : w1.heap.size = w.heap.size + 1 := by rw [hw, ← hz]; simp
      replace H_rows := Aside0.mk (H_rows.out.below hb)
      replace H_own := Aside0.mk (H_own.out.below hb)
      replace H_cm := Aside0.mk (H_cm.out.below hb)
      replace HB := Aside0.mk (below_then HB.out HB.out.size hb)
      have H_two0 := Aside0.mk (⟨by rw [hw, ← hz]; simp only [World.cell?]; rw [World.alloc_heap_new]; rfl, by rw [hs]; omega⟩ : w1.cell? ⟨w.heap.size, 0, none⟩ = some (.slice A0 rows.length c0) ∧ w.heap.size < w1.heap.size)
      have H_two1 := Aside0.mk (⟨by rw [hw, ← hz]; simp only [World.cell?]; rw [World.alloc_heap_new]; rfl, by rw [hs]; omega⟩ : w1.cell? ⟨w.heap.size, 1, none⟩ = some (.slice A1 owners.length c1) ∧ w.heap.size < w1.heap.size)
      clear hw hb hz
      have HZ := Aside0.mk hs; clear hs
      refine (HK.out _ H_rows.out H_own.out H_cm.out).mono ?_
      rintro e w2 ⟨rfl, hb⟩
      replace H_rows := Aside0.mk (H_rows.out.below hb)
      replace H_own := Aside0.mk (H_own.out.below hb)
      replace H_cm := Aside0.mk (H_cm.out.below hb)
      replace H_two0 := Aside0.mk (cell_on H_two0.out hb)
      replace H_two1 := Aside0.mk (cell_on H_two1.out hb)
      replace HB := Aside0.mk (below_then HB.out HB.out.size hb)
      clear hb
      go_wp2
      go_ret2
      exact ⟨ret_ii HPP.out, HB.out⟩
  · skip
    clear ht
    have q1 : (t == 0) = false := beq_eq_false_iff_ne.mpr h
    have q2 : (t != 0) = true := bne_iff_ne.mpr h
    have HN := Aside0.mk h
    go_enter Try.func28, Try.ntmps28
    go_wp2_with fail
    obtain ⟨w1, hw⟩ : ∃ W_, W_ = w.alloc (.cells #[.slice A0 rows.length c0, .slice A1 owners.length c1] 25) := ⟨_, rfl⟩
    rw [← hw]
    have hb : Below w.heap.size w w1 := by rw [hw]; exact below_alloc1 _ _
    have hz : w.heap.size = w.heap.size := rfl
    have hs : w1.heap.size = w.heap.size + 1 := by rw [hw, ← hz]; simp
    replace H_rows := Aside0.mk (H_rows.out.below hb)
    replace H_own := Aside0.mk (H_own.out.below hb)
    replace H_cm := Aside0.mk (H_cm.out.below hb)
    replace HB := Aside0.mk (below_then HB.out HB.out.size hb)
    have H_two0 := Aside0.mk (⟨by rw [hw, ← hz]; simp only [World.cell?]; rw [World.alloc_heap_new]; rfl, by rw [hs]; omega⟩ : w1.cell? ⟨w.heap.size, 0, none⟩ = some (.slice A0 rows.length c0) ∧ w.heap.size < w1.heap.size)
    have H_two1 := Aside0.mk (⟨by rw [hw, ← hz]; simp only [World.cell?]; rw [World.alloc_heap_new]; rfl, by rw [hs]; omega⟩ : w1.cell? ⟨w.heap.size, 1, none⟩ = some (.slice A1 owners.length c1) ∧ w.heap.size < w1.heap.size)
    clear hw hb hz
    have HZ := Aside0.mk hs; clear hs
    refine (HK.out _ H_rows.out H_own.out H_cm.out).mono ?_
    rintro e w2 ⟨rfl, hb⟩
    replace H_rows := Aside0.mk (H_rows.out.below hb)
    replace H_own := Aside0.mk (H_own.out.below hb)
    replace H_cm := Aside0.mk (H_cm.out.below hb)
    replace H_two0 := Aside0.mk (cell_on H_two0.out hb)
    replace H_two1 := Aside0.mk (cell_on H_two1.out hb)
    replace HB := Aside0.mk (below_then HB.out HB.out.size hb)
    clear hb
    go_wp2
    go_ret2
    exact ⟨ret_ii (by rw [HP.out, if_neg HN.out]), HB.out⟩
def fitsD (rows : List (List Int)) (owners cm : List Int) (row v : Int) : Bool × Int :=
  if checkD rows owners cm = 0 then (if rightS rows.length ⟨row, v⟩ then (commitQ v == (publicD rows owners cm row).1, 0) else (false, 340)) else (false, checkD rows owners cm)
theorem rightS_row {n : Nat} {row v : Int} (h : rightS n ⟨row, v⟩ = true) : 0 ≤ row ∧ row < n := by
  unfold rightS at h
  simp only [Bool.and_eq_true, decide_eq_true_eq] at h
  exact h.1
set_option maxRecDepth 100000 in
set_option maxHeartbeats 4000000 in
theorem fits_w {A0 A1 A2 : Option Addr} {c0 c1 c2 : Nat} {rows : List (List Int)} {owners : List Int} {cm : List Int} {row v : Int} {w : World} (h0 : Sl (Kd.slice 3 (Kd.int .i64)) w A0 c0 rows) (h1 : Sl (Kd.int .i64) w A1 c1 owners) (h2 : Sl (Kd.int .i64) w A2 c2 cm) :
    Calls Try.prog 30 #[.agg #[.slice A0 rows.length c0, .slice A1 owners.length c1], .slice A2 cm.length c2, .agg #[.int .i64 row, .int .i64 v]] w fun e w' => e = .returned (.tuple #[.bool (fitsD rows owners cm row v).1, .int .i64 (fitsD rows owners cm row v).2]) ∧ Below w.heap.size w w' := by
  have H_rows := Aside0.mk h0
  have H_own := Aside0.mk h1
  have H_cm := Aside0.mk h2
  have HB := Aside0.mk (Below.refl w.heap.size w)
  clear h0 h1 h2
  obtain ⟨t, ht⟩ : ∃ t, t = checkD rows owners cm := ⟨_, rfl⟩
  have HK : Aside0 (∀ W, Sl (Kd.slice 3 (Kd.int .i64)) W A0 c0 rows → Sl (Kd.int .i64) W A1 c1 owners → Sl (Kd.int .i64) W A2 c2 cm → Calls Try.prog 100 #[.agg #[.slice A0 rows.length c0, .slice A1 owners.length c1], .slice A2 cm.length c2] W fun e w' => e = .returned (.int .i64 t) ∧ Below W.heap.size W w') := ⟨fun W g0 g1 g2 => by rw [ht]; exact dcheck_w g0 g1 g2⟩
  rcases Decidable.em (t = 0) with h | h
  · skip
    have hd0 : checkD rows owners cm = 0 := ht.symm.trans h
    clear ht
    subst h
    cases hr : rightS rows.length ⟨row, v⟩ with
    | false =>
      have HF : Aside0 (fitsD rows owners cm row v = (false, 340)) := ⟨by unfold fitsD; rw [if_pos hd0, hr]; rfl⟩
      have HR := Aside0.mk hr; clear hr hd0
      go_enter Try.func30, Try.ntmps30
      go_wp2_with fail
      obtain ⟨w1, hw⟩ : ∃ W_, W_ = w.alloc (.cells #[.slice A0 rows.length c0, .slice A1 owners.length c1] 25) := ⟨_, rfl⟩
      rw [← hw]
      have hb : Below w.heap.size w w1 := by rw [hw]; exact below_alloc1 _ _
      have hz : w.heap.size = w.heap.size := rfl
      have hs : w1.heap.size = w.heap.size + 1 := by rw [hw, ← hz]; simp
      replace H_rows := Aside0.mk (H_rows.out.below hb)
      replace H_own := Aside0.mk (H_own.out.below hb)
      replace H_cm := Aside0.mk (H_cm.out.below hb)
      replace HB := Aside0.mk (below_then HB.out HB.out.size hb)
      have H_two0 := Aside0.mk (⟨by rw [hw, ← hz]; simp only [World.cell?]; rw [World.alloc_heap_new]; rfl, by rw [hs]; omega⟩ : w1.cell? ⟨w.heap.size, 0, none⟩ = some (.slice A0 rows.length c0) ∧ w.heap.size < w1.heap.size)
      have H_two1 := Aside0.mk (⟨by rw [hw, ← hz]; simp only [World.cell?]; rw [World.alloc_heap_new]; rfl, by rw [hs]; omega⟩ : w1.cell? ⟨w.heap.size, 1, none⟩ = some (.slice A1 owners.length c1) ∧ w.heap.size < w1.heap.size)
      clear hw hb hz
      have HZ := Aside0.mk hs; clear hs
      obtain ⟨w2, hw⟩ : ∃ W_, W_ = w1.alloc (.cells #[.int .i64 row, .int .i64 v] 38) := ⟨_, rfl⟩
      rw [← hw]
      have hb : Below w1.heap.size w1 w2 := by rw [hw]; exact below_alloc1 _ _
      have hz : w1.heap.size = w.heap.size + 1 := HZ.out
      have hs : w2.heap.size = w.heap.size + 1 + 1 := by rw [hw, ← hz]; simp
      replace H_rows := Aside0.mk (H_rows.out.below hb)
      replace H_own := Aside0.mk (H_own.out.below hb)
      replace H_cm := Aside0.mk (H_cm.out.below hb)
      replace H_two0 := Aside0.mk (cell_on H_two0.out hb)
      replace H_two1 := Aside0.mk (cell_on H_two1.out hb)
      replace HB := Aside0.mk (below_then HB.out HB.out.size hb)
      have H_sh0 := Aside0.mk (⟨by rw [hw, ← hz]; simp only [World.cell?]; rw [World.alloc_heap_new]; rfl, by rw [hs]; omega⟩ : w2.cell? ⟨w.heap.size + 1, 0, none⟩ = some (.int .i64 row) ∧ w.heap.size + 1 < w2.heap.size)
      have H_sh1 := Aside0.mk (⟨by rw [hw, ← hz]; simp only [World.cell?]; rw [World.alloc_heap_new]; rfl, by rw [hs]; omega⟩ : w2.cell? ⟨w.heap.size + 1, 1, none⟩ = some (.int .i64 v) ∧ w.heap.size + 1 < w2.heap.size)
      clear hw hb hz
      have HZ := Aside0.mk hs; clear hs
      refine (HK.out _ H_rows.out H_own.out H_cm.out).mono ?_
      rintro e w3 ⟨rfl, hb⟩
      replace H_rows := Aside0.mk (H_rows.out.below hb)
      replace H_own := Aside0.mk (H_own.out.below hb)
      replace H_cm := Aside0.mk (H_cm.out.below hb)
      replace H_two0 := Aside0.mk (cell_on H_two0.out hb)
      replace H_two1 := Aside0.mk (cell_on H_two1.out hb)
      replace H_sh0 := Aside0.mk (cell_on H_sh0.out hb)
      replace H_sh1 := Aside0.mk (cell_on H_sh1.out hb)
      replace HB := Aside0.mk (below_then HB.out HB.out.size hb)
      clear hb
      have x_two0 := H_two0.out.1
      have x_two1 := H_two1.out.1
      have x_sh0 := H_sh0.out.1
      have x_sh1 := H_sh1.out.1
      go_wp2_with fail
      clear x_two0 x_two1 x_sh0 x_sh1
      have HQ := right_w (f0 := row) (f1 := v) H_rows.out H_own.out
      rw [HR.out] at HQ
      refine (HQ).mono ?_
      rintro e w4 ⟨rfl, hb⟩
      replace H_rows := Aside0.mk (H_rows.out.below hb)
      replace H_own := Aside0.mk (H_own.out.below hb)
      replace H_cm := Aside0.mk (H_cm.out.below hb)
      replace H_two0 := Aside0.mk (cell_on H_two0.out hb)
      replace H_two1 := Aside0.mk (cell_on H_two1.out hb)
      replace H_sh0 := Aside0.mk (cell_on H_sh0.out hb)
      replace H_sh1 := Aside0.mk (cell_on H_sh1.out hb)
      replace HB := Aside0.mk (below_then HB.out HB.out.size hb)
      clear hb
      clear HQ
      go_wp2
      go_ret2
      exact ⟨ret_bi HF.out, HB.out⟩
    | true =>
      obtain ⟨g0, g1⟩ := rightS_row hr
      obtain ⟨y, hy⟩ : ∃ y, publicD rows owners cm row = (y, 0) := ⟨_, by unfold publicD; rw [if_pos hd0, if_pos ⟨g0, g1⟩]⟩
      have HF : Aside0 (fitsD rows owners cm row v = (commitQ v == y, 0)) := ⟨by unfold fitsD; rw [if_pos hd0, hr, hy]; rfl⟩
      have HR := Aside0.mk hr; have HY := Aside0.mk hy; clear hr hd0 hy g0 g1
      go_enter Try.func30, Try.ntmps30
      go_wp2_with fail
      obtain ⟨w1, hw⟩ : ∃ W_, W_ = w.alloc (.cells #[.slice A0 rows.length c0, .slice A1 owners.length c1] 25) := ⟨_, rfl⟩
      rw [← hw]
      have hb : Below w.heap.size w w1 := by rw [hw]; exact below_alloc1 _ _
      have hz : w.heap.size = w.heap.size := rfl
      have hs : w1.heap.size = w.heap.size + 1 := by rw [hw, ← hz]; simp
      replace H_rows := Aside0.mk (H_rows.out.below hb)
      replace H_own := Aside0.mk (H_own.out.below hb)
      replace H_cm := Aside0.mk (H_cm.out.below hb)
      replace HB := Aside0.mk (below_then HB.out HB.out.size hb)
      have H_two0 := Aside0.mk (⟨by rw [hw, ← hz]; simp only [World.cell?]; rw [World.alloc_heap_new]; rfl, by rw [hs]; omega⟩ : w1.cell? ⟨w.heap.size, 0, none⟩ = some (.slice A0 rows.length c0) ∧ w.heap.size < w1.heap.size)
      have H_two1 := Aside0.mk (⟨by rw [hw, ← hz]; simp only [World.cell?]; rw [World.alloc_heap_new]; rfl, by rw [hs]; omega⟩ : w1.cell? ⟨w.heap.size, 1, none⟩ = some (.slice A1 owners.length c1) ∧ w.heap.size < w1.heap.size)
      clear hw hb hz
      have HZ := Aside0.mk hs; clear hs
      obtain ⟨w2, hw⟩ : ∃ W_, W_ = w1.alloc (.cells #[.int .i64 row, .int .i64 v] 38) := ⟨_, rfl⟩
      rw [← hw]
      have hb : Below w1.heap.size w1 w2 := by rw [hw]; exact below_alloc1 _ _
      have hz : w1.heap.size = w.heap.size + 1 := HZ.out
      have hs : w2.heap.size = w.heap.size + 1 + 1 := by rw [hw, ← hz]; simp
      replace H_rows := Aside0.mk (H_rows.out.below hb)
      replace H_own := Aside0.mk (H_own.out.below hb)
      replace H_cm := Aside0.mk (H_cm.out.below hb)
      replace H_two0 := Aside0.mk (cell_on H_two0.out hb)
      replace H_two1 := Aside0.mk (cell_on H_two1.out hb)
      replace HB := Aside0.mk (below_then HB.out HB.out.size hb)
      have H_sh0 := Aside0.mk (⟨by rw [hw, ← hz]; simp only [World.cell?]; rw [World.alloc_heap_new]; rfl, by rw [hs]; omega⟩ : w2.cell? ⟨w.heap.size + 1, 0, none⟩ = some (.int .i64 row) ∧ w.heap.size + 1 < w2.heap.size)
      have H_sh1 := Aside0.mk (⟨by rw [hw, ← hz]; simp only [World.cell?]; rw [World.alloc_heap_new]; rfl, by rw [hs]; omega⟩ : w2.cell? ⟨w.heap.size + 1, 1, none⟩ = some (.int .i64 v) ∧ w.heap.size + 1 < w2.heap.size)
      clear hw hb hz
      have HZ := Aside0.mk hs; clear hs
      refine (HK.out _ H_rows.out H_own.out H_cm.out).mono ?_
      rintro e w3 ⟨rfl, hb⟩
      replace H_rows := Aside0.mk (H_rows.out.below hb)
      replace H_own := Aside0.mk (H_own.out.below hb)
      replace H_cm := Aside0.mk (H_cm.out.below hb)
      replace H_two0 := Aside0.mk (cell_on H_two0.out hb)
      replace H_two1 := Aside0.mk (cell_on H_two1.out hb)
      replace H_sh0 := Aside0.mk (cell_on H_sh0.out hb)
      replace H_sh1 := Aside0.mk (cell_on H_sh1.out hb)
      replace HB := Aside0.mk (below_then HB.out HB.out.size hb)
      clear hb
      have x_two0 := H_two0.out.1
      have x_two1 := H_two1.out.1
      have x_sh0 := H_sh0.out.1
      have x_sh1 := H_sh1.out.1
      go_wp2_with fail
      clear x_two0 x_two1 x_sh0 x_sh1
      have HQ := right_w (f0 := row) (f1 := v) H_rows.out H_own.out
      rw [HR.out] at HQ
      refine (HQ).mono ?_
      rintro e w4 ⟨rfl, hb⟩
      replace H_rows := Aside0.mk (H_rows.out.below hb)
      replace H_own := Aside0.mk (H_own.out.below hb)
      replace H_cm := Aside0.mk (H_cm.out.below hb)
      replace H_two0 := Aside0.mk (cell_on H_two0.out hb)
      replace H_two1 := Aside0.mk (cell_on H_two1.out hb)
      replace H_sh0 := Aside0.mk (cell_on H_sh0.out hb)
      replace H_sh1 := Aside0.mk (cell_on H_sh1.out hb)
      replace HB := Aside0.mk (below_then HB.out HB.out.size hb)
      clear hb
      clear HQ
      have x_two0 := H_two0.out.1
      have x_two1 := H_two1.out.1
      have x_sh0 := H_sh0.out.1
      go_wp2_with fail
      clear x_two0 x_two1 x_sh0
      have HQ := public_w (row := row) H_rows.out H_own.out H_cm.out
      rw [HY.out] at HQ
      refine (HQ).mono ?_
      rintro e w5 ⟨rfl, hb⟩
      clear H_rows
      clear H_own
      clear H_cm
      clear H_two0
      clear H_two1
      replace H_sh0 := Aside0.mk (cell_on H_sh0.out hb)
      replace H_sh1 := Aside0.mk (cell_on H_sh1.out hb)
      replace HB := Aside0.mk (below_then HB.out HB.out.size hb)
      clear hb
      clear HQ
      have x_sh1 := H_sh1.out.1
      go_wp2_with fail
      clear x_sh1
      refine (group_Pow.calls 4 v _ _ _ (pow_four v)).mono ?_
      rintro e w6 ⟨rfl, hb⟩
      replace H_sh0 := Aside0.mk (cell_on H_sh0.out hb)
      replace H_sh1 := Aside0.mk (cell_on H_sh1.out hb)
      replace HB := Aside0.mk (below_then HB.out HB.out.size hb)
      clear hb
      generalize commitQ v = z at HF ⊢
      go_wp2
      go_ret2
      exact ⟨ret_bi HF.out, HB.out⟩
  · skip
    have HF : Aside0 (fitsD rows owners cm row v = (false, t)) := ⟨by unfold fitsD; rw [← ht, if_neg h]⟩
    clear ht
    have q1 : (t == 0) = false := beq_eq_false_iff_ne.mpr h
    have q2 : (t != 0) = true := bne_iff_ne.mpr h
    go_enter Try.func30, Try.ntmps30
    go_wp2_with fail
    obtain ⟨w1, hw⟩ : ∃ W_, W_ = w.alloc (.cells #[.slice A0 rows.length c0, .slice A1 owners.length c1] 25) := ⟨_, rfl⟩
    rw [← hw]
    have hb : Below w.heap.size w w1 := by rw [hw]; exact below_alloc1 _ _
    have hz : w.heap.size = w.heap.size := rfl
    have hs : w1.heap.size = w.heap.size + 1 := by rw [hw, ← hz]; simp
    replace H_rows := Aside0.mk (H_rows.out.below hb)
    replace H_own := Aside0.mk (H_own.out.below hb)
    replace H_cm := Aside0.mk (H_cm.out.below hb)
    replace HB := Aside0.mk (below_then HB.out HB.out.size hb)
    have H_two0 := Aside0.mk (⟨by rw [hw, ← hz]; simp only [World.cell?]; rw [World.alloc_heap_new]; rfl, by rw [hs]; omega⟩ : w1.cell? ⟨w.heap.size, 0, none⟩ = some (.slice A0 rows.length c0) ∧ w.heap.size < w1.heap.size)
    have H_two1 := Aside0.mk (⟨by rw [hw, ← hz]; simp only [World.cell?]; rw [World.alloc_heap_new]; rfl, by rw [hs]; omega⟩ : w1.cell? ⟨w.heap.size, 1, none⟩ = some (.slice A1 owners.length c1) ∧ w.heap.size < w1.heap.size)
    clear hw hb hz
    have HZ := Aside0.mk hs; clear hs
    obtain ⟨w2, hw⟩ : ∃ W_, W_ = w1.alloc (.cells #[.int .i64 row, .int .i64 v] 38) := ⟨_, rfl⟩
    rw [← hw]
    have hb : Below w1.heap.size w1 w2 := by rw [hw]; exact below_alloc1 _ _
    have hz : w1.heap.size = w.heap.size + 1 := HZ.out
    have hs : w2.heap.size = w.heap.size + 1 + 1 := by rw [hw, ← hz]; simp
    replace H_rows := Aside0.mk (H_rows.out.below hb)
    replace H_own := Aside0.mk (H_own.out.below hb)
    replace H_cm := Aside0.mk (H_cm.out.below hb)
    replace H_two0 := Aside0.mk (cell_on H_two0.out hb)
    replace H_two1 := Aside0.mk (cell_on H_two1.out hb)
    replace HB := Aside0.mk (below_then HB.out HB.out.size hb)
    have H_sh0 := Aside0.mk (⟨by rw [hw, ← hz]; simp only [World.cell?]; rw [World.alloc_heap_new]; rfl, by rw [hs]; omega⟩ : w2.cell? ⟨w.heap.size + 1, 0, none⟩ = some (.int .i64 row) ∧ w.heap.size + 1 < w2.heap.size)
    have H_sh1 := Aside0.mk (⟨by rw [hw, ← hz]; simp only [World.cell?]; rw [World.alloc_heap_new]; rfl, by rw [hs]; omega⟩ : w2.cell? ⟨w.heap.size + 1, 1, none⟩ = some (.int .i64 v) ∧ w.heap.size + 1 < w2.heap.size)
    clear hw hb hz
    have HZ := Aside0.mk hs; clear hs
    refine (HK.out _ H_rows.out H_own.out H_cm.out).mono ?_
    rintro e w3 ⟨rfl, hb⟩
    replace H_rows := Aside0.mk (H_rows.out.below hb)
    replace H_own := Aside0.mk (H_own.out.below hb)
    replace H_cm := Aside0.mk (H_cm.out.below hb)
    replace H_two0 := Aside0.mk (cell_on H_two0.out hb)
    replace H_two1 := Aside0.mk (cell_on H_two1.out hb)
    replace H_sh0 := Aside0.mk (cell_on H_sh0.out hb)
    replace H_sh1 := Aside0.mk (cell_on H_sh1.out hb)
    replace HB := Aside0.mk (below_then HB.out HB.out.size hb)
    clear hb
    go_wp2
    go_ret2
    exact ⟨ret_bi HF.out, HB.out⟩
end Go.Proofs.Ytdbamhckgaoibaa.P
namespace Go.Proofs.Ytdbamhckgaoibaa.P
open Go.RowKit Go.Proofs.YtdbamhckgaoibaaW.PrintWords Go.Proofs.YtdbamhckgaoibaaW.PrintLast Go.Proofs.YtdbamhckgaoibaaW.PrintMore
set_option linter.unusedVariables false
set_option linter.unusedSimpArgs false
theorem own_shrink {w : World} {base g n cap : Nat} {e : TypeId} {xs : List Value} (h : w.ownsRow base e 1 (.slice (some ⟨g, 0, none⟩) n cap) n xs) : w.ownsRow base e 1 (.slice (some ⟨g, 0, none⟩) 0 cap) 0 [] := by
  refine ⟨rfl, ?_⟩
  rcases h.2 with ⟨h1, _⟩ | ⟨g', cap', cur, h1, h2, h3, h4, h5, h6, h7⟩
  · cases h1
  · injection h1 with h1 _ h8
    injection h1 with h1
    injection h1 with h1
    subst h1 h8
    exact .inr ⟨g, cap, cur, rfl, h2, h3, Nat.zero_le _, h5, h6, by simp⟩
theorem grow_form {n base : Nat} {w1 : World} {v1 : Value} (h0 : 0 < n) (h1 : Kd.R (Kd.int .i64) 3 w1 base (fun _ => True) v1 ([] ++ List.replicate (n : Int).toNat 0)) :
    ∃ gv cap, v1 = .slice (some ⟨gv, 0, none⟩) n cap ∧ Aside0 (w1.ownsRow base 3 1 (.slice (some ⟨gv, 0, none⟩) 0 cap) 0 []) := by
  obtain ⟨inner, ho⟩ := Kd.R_own h1
  have hle : (([] : List Int) ++ List.replicate (n : Int).toNat (0 : Int)).length = n := by simp
  rw [hle] at ho
  obtain ⟨gv, cap, rfl⟩ : ∃ gv cap, v1 = .slice (some ⟨gv, 0, none⟩) n cap := by
    rcases ho.2 with ⟨_, h⟩ | ⟨gv, cap, cur, h, _⟩
    · omega
    · exact ⟨gv, cap, h⟩
  exact ⟨gv, cap, rfl, ⟨own_shrink ho⟩⟩
theorem ReadsInt_of_C {w : World} {A : Option Addr} {n : Nat} {xs : List Int} (h : Kd.C (Kd.int .i64) w A n xs) : ReadsInt w .i64 A n xs :=
  ⟨h.1, h.2.1, fun hn => by
    obtain ⟨ad, e, hx⟩ := Kd.at_int h 0 (Int.le_refl _) (by omega)
    refine ⟨ad, e, fun j hj => ?_⟩
    obtain ⟨ad', e', hx'⟩ := Kd.at_int h (j : Int) (by omega) (by omega)
    rw [e] at e'
    injection e' with e'
    subst e'
    rw [Int.toNat_natCast] at hx'
    rw [hx', rd_nat]⟩
set_option maxRecDepth 100000 in
set_option maxHeartbeats 1000000 in
theorem grow_nil (n : Nat) (w : World) (hn : n ≤ 1000000) : Calls Try.prog 163 #[.slice none 0 0, .int .i64 (n : Int)] w fun e w' => ∃ v, e = .returned v ∧ w'.ownsRow w.heap.size 3 1 v 0 [] ∧ Below w.heap.size w w' := by
  have c1 : decide ((n : Int) < 0) = false := decide_eq_false (by omega)
  by_cases h0 : 0 < n
  · have c2 : decide ((n : Int) > 0) = true := decide_eq_true (by omega)
    go_enter Try.func163, Try.ntmps163
    go_wp2_with (at_builtin; refine Kd.R_append_zeros (Kd.int .i64) (w0 := w) w.heap.size rfl _ _ 23 3 3 (.int .i64 0) 8 rfl (by kernel_rfl) (k := .i64) (by kernel_rfl) (by kernel_rfl) rfl (by decide) (by decide) (.slice none 0 0) [] (0 : Int) (n : Int) (fun _ => True) rfl rfl (by rfl) (fun _ _ => trivial) (Kd.R_nil _ _ _ _ _) (by omega) (Below.refl _ _) (Nat.le_refl _) (by simp; omega) ?_; intro v1 w1 h1 hB1 hg hat; obtain ⟨gv, cap, rfl, HO⟩ := grow_form h0 h1; have HB := Aside0.mk hB1; clear h1 hB1 hg hat)
    go_ret
    exact ⟨_, rfl, HO.out, HB.out⟩
  · obtain rfl : n = 0 := by omega
    go_enter Try.func163, Try.ntmps163
    go_wp2
    go_ret
    exact ⟨_, rfl, World.ownsRow_nil _ _ _ _, Below.refl _ _⟩
def sizesOf (l : List (List Int)) : Nat := (l.map List.length).sum
theorem sizes_take (l : List (List Int)) (j : Nat) (h : j < l.length) : sizesOf (l.take (j + 1)) = sizesOf (l.take j) + l[j].length := by
  unfold sizesOf
  rw [List.take_succ_eq_append_getElem h, List.map_append, List.sum_append]; simp
theorem sizes_le (l : List (List Int)) (j : Nat) : sizesOf (l.take j) ≤ sizesOf l := by
  unfold sizesOf
  conv => rhs; rw [← List.take_append_drop j l, List.map_append, List.sum_append]
  omega
theorem flatten_take (l : List (List Int)) (j : Nat) (h : j < l.length) : (l.take (j + 1)).flatten = (l.take j).flatten ++ l[j] := by
  rw [List.take_succ_eq_append_getElem h, List.flatten_append]; simp
theorem flatten_size (l : List (List Int)) : l.flatten.length = sizesOf l := by
  rw [List.length_flatten]; rfl
set_option maxRecDepth 100000 in
set_option maxHeartbeats 4000000 in
theorem concat_c (A0 : Option Addr) (c0 : Nat) (l : List (List Int)) (w : World) (hr : Kd.C (Kd.slice 3 (Kd.int .i64)) w A0 l.length l) (hs : sizesOf l ≤ 1000000) :
    Calls Try.prog 85 #[.slice A0 l.length c0] w fun e w' => ∃ v, e = .returned v ∧ w'.ownsRow w.heap.size 3 1 v l.flatten.length (nums .i64 l.flatten) ∧ Below w.heap.size w w' := by
  have HR := Aside0.mk hr
  have hlen : l.length ≤ 9223372036854775807 := hr.2.1
  have HG := Aside0.mk (fun (W : World) => grow_nil (sizesOf l) W hs)
  have HS := Aside0.mk hs
  clear hr hs
  go_enter Try.func85, Try.ntmps85
  go_wp2
  go_loopg [3, 11] l.length (fun gk v3 v11 w' => ∃ j : Nat, j ≤ l.length ∧ gk = l.length - j ∧ v11 = .int .i64 (j : Int) ∧ v3 = .int .i64 (sizesOf (l.take j) : Int) ∧ w = w')
  case atStart => exact ⟨0, Nat.zero_le _, rfl, rfl, rfl, rfl⟩
  case round =>
    obtain ⟨j, hj, rfl, rfl, rfl, hwe⟩ := hrel
    subst hwe
    by_cases hlt : j < l.length
    · have d1 : decide ((j : Int) < (l.length : Int)) = true := decide_eq_true (by omega)
      have d2 : decide (j < l.length) = true := decide_eq_true hlt
      have d4 : (0 : Int) ≤ (j : Int) := by omega
      obtain ⟨ad, A1, c3, e, hx, hx2, hx3⟩ := at_L1 HR.out (j : Int) (by omega) (by omega)
      cases e
      rw [Int.toNat_natCast, rd_L1_nat] at hx
      have e1 : l.getD j [] = l[j] := by rw [List.getD_eq_getElem?_getD, List.getElem?_eq_getElem hlt]; rfl
      rw [e1] at hx
      have hst := sizes_take l j hlt
      have hsl := sizes_le l (j + 1)
      have HST := Aside0.mk hst
      have hb : sizesOf (l.take j) + l[j].length ≤ 1000000 := by have := HS.out; omega
      generalize l[j].length = m at hx hst HST hb
      generalize sizesOf (l.take j) = sj at hst HST hb ⊢
      have d5 : decide (((sj : Int) + (m : Int)) < 0) = false := decide_eq_false (by omega)
      clear hx2 hx3 e1 hst hsl
      go_wp2
      go_roundg (l.length - (j + 1))
      case measure => omega
      case rel => exact ⟨j + 1, by omega, rfl, by first | rfl | rw [wrap_succ (by omega)], by rw [HST.out]; rfl, rfl⟩
    · obtain rfl : j = l.length := by omega
      have d1 : decide ((l.length : Int) < (l.length : Int)) = false := decide_eq_false (by omega)
      rw [List.take_length]
      go_wp2_with fail
      refine (HG.out _).mono ?_
      rintro e w1 ⟨v1, rfl, ho1, hb1⟩
      obtain ⟨vA, vc, rfl⟩ := own_len ho1
      have HO1 := Aside0.mk ho1
      have HB1 := Aside0.mk hb1
      clear ho1 hb1 HG
      go_wp2
      go_loopg [6, 27] l.length (fun gk v6 v27 w' => ∃ j : Nat, j ≤ l.length ∧ gk = l.length - j ∧ v27 = .int .i64 (j : Int) ∧ Aside0 (w'.ownsRow w.heap.size 3 1 v6 (l.take j).flatten.length (nums .i64 (l.take j).flatten)) ∧ Aside0 (Below w.heap.size w w'))
      case atStart => exact ⟨0, Nat.zero_le _, rfl, rfl, HO1, HB1⟩
      case round =>
        obtain ⟨j, hj, rfl, rfl, HO, HB⟩ := hrel
        by_cases hlt : j < l.length
        · have d1 : decide ((j : Int) < (l.length : Int)) = true := decide_eq_true (by omega)
          have d2 : decide (j < l.length) = true := decide_eq_true hlt
          have d4 : (0 : Int) ≤ (j : Int) := by omega
          obtain ⟨ad, A1, c3, e, hx, hx2, hx3⟩ := at_L1 HR.out (j : Int) (by omega) (by omega)
          cases e
          rw [Int.toNat_natCast, rd_L1_nat] at hx
          rw [rd_L1_nat] at hx2 hx3
          have e1 : l.getD j [] = l[j] := by rw [List.getD_eq_getElem?_getD, List.getElem?_eq_getElem hlt]; rfl
          rw [e1] at hx hx2 hx3
          replace hx := (HB.out.cell (World.block_lt_of_cell? w _ hx)).trans hx
          have HX3 := Aside0.mk (Kd.C_below hx3 HB.out)
          have hft := flatten_take l j hlt
          have HFT := Aside0.mk hft
          have hsz : ((l.take j).flatten.length + l[j].length) * 8 ≤ 140737488355328 := by
            have h1 := flatten_size (l.take (j + 1))
            rw [hft, List.length_append] at h1
            have := sizes_le l (j + 1)
            have := HS.out
            omega
          have HSZ := Aside0.mk hsz
          generalize l[j] = y at hx hx2 HX3 HFT HSZ
          clear hx3 e1 hft hsz
          obtain ⟨vA, vc, rfl⟩ := own_len HO.out
          go_wp2_with (at_builtin; refine print_append_row (w0 := w) w.heap.size rfl _ _ 23 3 .i64 8 rfl (by kernel_rfl) (by kernel_rfl) (by decide) _ (l.take j).flatten y A1 y.length c3 rfl rfl HO.out (ReadsInt_of_C HX3.out) HB.out HB.out.size HSZ.out ?_; intro v1 w2 h1 hB1 hg hat; have HO2 := Aside0.mk h1; have HB2 := Aside0.mk hB1; clear h1 hB1 hg hat)
          go_roundg (l.length - (j + 1))
          case measure => omega
          case rel => exact ⟨j + 1, by omega, rfl, by first | rfl | rw [wrap_succ (by omega)], ⟨by rw [HFT.out]; exact HO2.out⟩, HB2⟩
        · obtain rfl : j = l.length := by omega
          have d1 : decide ((l.length : Int) < (l.length : Int)) = false := decide_eq_false (by omega)
          have ho := HO.out
          rw [List.take_length] at ho
          have HO2 := Aside0.mk ho
          clear ho
          go_wp2
          go_ret
          exact ⟨_, rfl, HO2.out, HB.out⟩
def slices_Concat_int_int.f (l0 : List (List Int)) : Option (List Int) := if sizesOf l0 ≤ 1000000 then some l0.flatten else none
theorem slices_Concat_int_int.calls (A0 : Option Addr) (c0 : Nat) (l0 : List (List Int)) (r : List Int) (w : World) (hr0 : Kd.C (Kd.slice 3 (Kd.int .i64)) w A0 l0.length l0) (hc0 : l0.length ≤ c0) (h : slices_Concat_int_int.f l0 = some r) :
    Calls Try.prog 85 #[.slice A0 l0.length c0] w fun e w' => ∃ v0_ : Value, e = .returned v0_ ∧ Kd.R (Kd.int .i64) 3 w' w.heap.size (fun _ => True) v0_ r ∧ Below w.heap.size w w' := by
  unfold slices_Concat_int_int.f at h
  split at h
  · cases h
    refine (concat_c A0 c0 l0 w hr0 (by assumption)).mono ?_
    rintro e w' ⟨v, he, ho, hb⟩
    exact ⟨v, he, R_of_owns ho (fun _ _ => trivial), hb⟩
  · cases h
end Go.Proofs.Ytdbamhckgaoibaa.P
namespace Go.Proofs.Ytdbamhckgaoibaa.P
open Go.RowKit Go.Proofs.YtdbamhckgaoibaaW.PrintWords Go.Proofs.YtdbamhckgaoibaaW.PrintLast Go.Proofs.YtdbamhckgaoibaaW.PrintMore
set_option linter.unusedVariables false
def dealQ (rows : List (List Int)) (owners : List Int) (secret : Int) (random : List Int) : List S38 × List Int × Int :=
  if checkP rows owners = 0 then (if inQ secret && !random.any outQ && decide (random.length + 1 = colsP rows) then (sharesQ rows (secret :: random), (secret :: random).map commitQ, 0) else ([], [], 1)) else ([], [], checkP rows owners)
theorem numbers_w {A : Option Addr} {c : Nat} {l : List Int} {W : World} (h : Sl (Kd.int .i64) W A c l) : Calls Try.prog 83 #[.slice A l.length c] W fun e w' => e = .returned (.bool (!l.any outQ)) ∧ Below W.heap.size W w' :=
  (dealing_numbers.calls A c l (!l.any outQ) W h.rd h.le (by unfold dealing_numbers.f contains_outQ.f; rfl)).mono fun _ _ h => ⟨h.1, h.2.below⟩
theorem cols_le {rows : List (List Int)} {owners : List Int} (h : checkP rows owners = 0) : colsP rows ≤ 64 := by
  have hP := check_ok h
  unfold colsP
  split
  · decide
  · exact (hP.row 0 (by omega)).2.2.1
theorem deal_row {rows : List (List Int)} {owners : List Int} (h : checkP rows owners = 0) {secret : Int} {random s : List Int} (hn : random.length + 1 = colsP rows) (hs : s = secret :: random) {i : Nat} (hi : i < rows.length) : (rows.getD i []).length ≤ s.length := by
  have hP := check_ok h
  have h1 := (hP.row i hi).2.1
  rw [hs, List.length_cons, hn, colsP, if_neg (by omega), h1]
  exact Nat.le_refl _
set_option maxRecDepth 100000 in
set_option maxHeartbeats 8000000 in
theorem deal_w {A0 A1 A2 : Option Addr} {c0 c1 c2 : Nat} {rows : List (List Int)} {owners : List Int} {secret : Int} {random : List Int} {w : World} (h0 : Sl (Kd.slice 3 (Kd.int .i64)) w A0 c0 rows) (h1 : Sl (Kd.int .i64) w A1 c1 owners) (h2 : Sl (Kd.int .i64) w A2 c2 random) :
    Calls Try.prog 22 #[.agg #[.slice A0 rows.length c0, .slice A1 owners.length c1], .int .i64 secret, .slice A2 random.length c2] w fun e w' => ∃ v0_ v1_ : Value, e = .returned (.tuple #[v0_, v1_, .int .i64 (dealQ rows owners secret random).2.2]) ∧
      Kd.R k38 38 w' w.heap.size (fun k_ => (w.heap.size ≤ k_)) v0_ (dealQ rows owners secret random).1 ∧ Kd.R (Kd.int .i64) 3 w' w.heap.size (fun k_ => (w.heap.size ≤ k_)) v1_ (dealQ rows owners secret random).2.1 ∧ Below w.heap.size w w' := by
  have H_rows := Aside0.mk h0
  have H_own := Aside0.mk h1
  have H_rnd := Aside0.mk h2
  have HB := Aside0.mk (Below.refl w.heap.size w)
  clear h0 h1 h2
  obtain ⟨t, ht⟩ : ∃ t, t = checkP rows owners := ⟨_, rfl⟩
  have HK : Aside0 (∀ W, Sl (Kd.slice 3 (Kd.int .i64)) W A0 c0 rows → Sl (Kd.int .i64) W A1 c1 owners → Calls Try.prog 82 #[.agg #[.slice A0 rows.length c0, .slice A1 owners.length c1]] W fun e w' => e = .returned (.int .i64 t) ∧ Below W.heap.size W w') := ⟨fun W g0 g1 => by rw [ht]; exact program_Check.calls 66 A0 c0 rows A1 c1 owners _ W g0.rd g0.le g1.rd g1.le (check_math rows owners 66 (Nat.le_refl _))⟩
  rcases Decidable.em (t = 0) with h | h
  · skip
    have hd0 : checkP rows owners = 0 := ht.symm.trans h
    clear ht
    subst h
    cases hq1 : inQ secret with
    | false =>
      have HF : Aside0 (dealQ rows owners secret random = ([], [], 1)) := ⟨by unfold dealQ; rw [if_pos hd0, hq1]; rfl⟩
      have HS1 := Aside0.mk ((inQ_not secret).trans hq1); clear hq1 hd0
      go_enter Try.func22, Try.ntmps22
      go_wp2_with fail
      obtain ⟨w1, hw⟩ : ∃ W_, W_ = w.alloc (.cells #[.slice A0 rows.length c0, .slice A1 owners.length c1] 25) := ⟨_, rfl⟩
      rw [← hw]
      have hb : Below w.heap.size w w1 := by rw [hw]; exact below_alloc1 _ _
      have hz : w.heap.size = w.heap.size := rfl
      have hs : w1.heap.size = w.heap.size + 1 := by rw [hw, ← hz]; simp
      replace H_rows := Aside0.mk (H_rows.out.below hb)
      replace H_own := Aside0.mk (H_own.out.below hb)
      replace H_rnd := Aside0.mk (H_rnd.out.below hb)
      replace HB := Aside0.mk (below_then HB.out HB.out.size hb)
      have H_two0 := Aside0.mk (⟨by rw [hw, ← hz]; simp only [World.cell?]; rw [World.alloc_heap_new]; rfl, by rw [hs]; omega⟩ : w1.cell? ⟨w.heap.size, 0, none⟩ = some (.slice A0 rows.length c0) ∧ w.heap.size < w1.heap.size)
      have H_two1 := Aside0.mk (⟨by rw [hw, ← hz]; simp only [World.cell?]; rw [World.alloc_heap_new]; rfl, by rw [hs]; omega⟩ : w1.cell? ⟨w.heap.size, 1, none⟩ = some (.slice A1 owners.length c1) ∧ w.heap.size < w1.heap.size)
      clear hw hb hz
      have HZ := Aside0.mk hs; clear hs
      refine (HK.out _ H_rows.out H_own.out).mono ?_
      rintro e w2 ⟨rfl, hb⟩
      replace H_rows := Aside0.mk (H_rows.out.below hb)
      replace H_own := Aside0.mk (H_own.out.below hb)
      replace H_rnd := Aside0.mk (H_rnd.out.below hb)
      replace H_two0 := Aside0.mk (cell_on H_two0.out hb)
      replace H_two1 := Aside0.mk (cell_on H_two1.out hb)
      replace HB := Aside0.mk (below_then HB.out HB.out.size hb)
      clear hb
      go_wp2_with fail
      obtain ⟨w3, hw⟩ : ∃ W_, W_ = w2.alloc (.cells #[.int .i64 secret] 3) := ⟨_, rfl⟩
      rw [← hw]
      have hb : Below w2.heap.size w2 w3 := by rw [hw]; exact below_alloc1 _ _
      have hz : w2.heap.size = w2.heap.size := rfl
      have hs : w3.heap.size = w2.heap.size + 1 := by rw [hw, ← hz]; simp
      have hl : Sl (Kd.int .i64) w3 (some ⟨w2.heap.size, 0, none⟩) 1 [secret] := by rw [hw, ← hz]; exact Sl.ints w2 3 [secret] (by show 1 ≤ 1000000; decide)
      replace H_rows := Aside0.mk (H_rows.out.below hb)
      replace H_own := Aside0.mk (H_own.out.below hb)
      replace H_rnd := Aside0.mk (H_rnd.out.below hb)
      replace H_two0 := Aside0.mk (cell_on H_two0.out hb)
      replace H_two1 := Aside0.mk (cell_on H_two1.out hb)
      replace HB := Aside0.mk (below_then HB.out HB.out.size hb)
      have H_s1 := Aside0.mk hl; clear hl
      clear hw hb hz
      have HZ := Aside0.mk hs; clear hs
      have HQ := numbers_w H_s1.out
      rw [HS1.out] at HQ
      refine (HQ).mono ?_
      rintro e w4 ⟨rfl, hb⟩
      replace H_rows := Aside0.mk (H_rows.out.below hb)
      replace H_own := Aside0.mk (H_own.out.below hb)
      replace H_rnd := Aside0.mk (H_rnd.out.below hb)
      replace H_two0 := Aside0.mk (cell_on H_two0.out hb)
      replace H_two1 := Aside0.mk (cell_on H_two1.out hb)
      clear H_s1
      replace HB := Aside0.mk (below_then HB.out HB.out.size hb)
      clear hb
      clear HQ
      go_wp2
      go_ret3
      rw [HF.out]
      exact ⟨_, _, rfl, Kd.R_nil _ _ _ _ _, Kd.R_nil _ _ _ _ _, HB.out⟩
    | true =>
      have HS1 := Aside0.mk ((inQ_not secret).trans hq1)
      cases hq2 : random.any outQ with
      | true =>
        have HF : Aside0 (dealQ rows owners secret random = ([], [], 1)) := ⟨by unfold dealQ; rw [if_pos hd0, hq1, hq2]; rfl⟩
        have HS2 := Aside0.mk (congrArg not hq2); clear hq1 hq2 hd0
        go_enter Try.func22, Try.ntmps22
        go_wp2_with fail
        obtain ⟨w1, hw⟩ : ∃ W_, W_ = w.alloc (.cells #[.slice A0 rows.length c0, .slice A1 owners.length c1] 25) := ⟨_, rfl⟩
        rw [← hw]
        have hb : Below w.heap.size w w1 := by rw [hw]; exact below_alloc1 _ _
        have hz : w.heap.size = w.heap.size := rfl
        have hs : w1.heap.size = w.heap.size + 1 := by rw [hw, ← hz]; simp
        replace H_rows := Aside0.mk (H_rows.out.below hb)
        replace H_own := Aside0.mk (H_own.out.below hb)
        replace H_rnd := Aside0.mk (H_rnd.out.below hb)
        replace HB := Aside0.mk (below_then HB.out HB.out.size hb)
        have H_two0 := Aside0.mk (⟨by rw [hw, ← hz]; simp only [World.cell?]; rw [World.alloc_heap_new]; rfl, by rw [hs]; omega⟩ : w1.cell? ⟨w.heap.size, 0, none⟩ = some (.slice A0 rows.length c0) ∧ w.heap.size < w1.heap.size)
        have H_two1 := Aside0.mk (⟨by rw [hw, ← hz]; simp only [World.cell?]; rw [World.alloc_heap_new]; rfl, by rw [hs]; omega⟩ : w1.cell? ⟨w.heap.size, 1, none⟩ = some (.slice A1 owners.length c1) ∧ w.heap.size < w1.heap.size)
        clear hw hb hz
        have HZ := Aside0.mk hs; clear hs
        refine (HK.out _ H_rows.out H_own.out).mono ?_
        rintro e w2 ⟨rfl, hb⟩
        replace H_rows := Aside0.mk (H_rows.out.below hb)
        replace H_own := Aside0.mk (H_own.out.below hb)
        replace H_rnd := Aside0.mk (H_rnd.out.below hb)
        replace H_two0 := Aside0.mk (cell_on H_two0.out hb)
        replace H_two1 := Aside0.mk (cell_on H_two1.out hb)
        replace HB := Aside0.mk (below_then HB.out HB.out.size hb)
        clear hb
        go_wp2_with fail
        obtain ⟨w3, hw⟩ : ∃ W_, W_ = w2.alloc (.cells #[.int .i64 secret] 3) := ⟨_, rfl⟩
        rw [← hw]
        have hb : Below w2.heap.size w2 w3 := by rw [hw]; exact below_alloc1 _ _
        have hz : w2.heap.size = w2.heap.size := rfl
        have hs : w3.heap.size = w2.heap.size + 1 := by rw [hw, ← hz]; simp
        have hl : Sl (Kd.int .i64) w3 (some ⟨w2.heap.size, 0, none⟩) 1 [secret] := by rw [hw, ← hz]; exact Sl.ints w2 3 [secret] (by show 1 ≤ 1000000; decide)
        replace H_rows := Aside0.mk (H_rows.out.below hb)
        replace H_own := Aside0.mk (H_own.out.below hb)
        replace H_rnd := Aside0.mk (H_rnd.out.below hb)
        replace H_two0 := Aside0.mk (cell_on H_two0.out hb)
        replace H_two1 := Aside0.mk (cell_on H_two1.out hb)
        replace HB := Aside0.mk (below_then HB.out HB.out.size hb)
        have H_s1 := Aside0.mk hl; clear hl
        clear hw hb hz
        have HZ := Aside0.mk hs; clear hs
        have HQ := numbers_w H_s1.out
        rw [HS1.out] at HQ
        refine (HQ).mono ?_
        rintro e w4 ⟨rfl, hb⟩
        replace H_rows := Aside0.mk (H_rows.out.below hb)
        replace H_own := Aside0.mk (H_own.out.below hb)
        replace H_rnd := Aside0.mk (H_rnd.out.below hb)
        replace H_two0 := Aside0.mk (cell_on H_two0.out hb)
        replace H_two1 := Aside0.mk (cell_on H_two1.out hb)
        clear H_s1
        replace HB := Aside0.mk (below_then HB.out HB.out.size hb)
        clear hb
        clear HQ
        go_wp2_with fail
        have HQ := numbers_w H_rnd.out
        rw [HS2.out] at HQ
        refine (HQ).mono ?_
        rintro e w5 ⟨rfl, hb⟩
        replace H_rows := Aside0.mk (H_rows.out.below hb)
        replace H_own := Aside0.mk (H_own.out.below hb)
        replace H_rnd := Aside0.mk (H_rnd.out.below hb)
        replace H_two0 := Aside0.mk (cell_on H_two0.out hb)
        replace H_two1 := Aside0.mk (cell_on H_two1.out hb)
        replace HB := Aside0.mk (below_then HB.out HB.out.size hb)
        clear hb
        clear HQ
        go_wp2
        go_ret3
        rw [HF.out]
        exact ⟨_, _, rfl, Kd.R_nil _ _ _ _ _, Kd.R_nil _ _ _ _ _, HB.out⟩
      | false =>
        have HS2 := Aside0.mk (congrArg not hq2)
        have hcl := cols_le hd0
        by_cases hn : random.length + 1 = colsP rows
        · skip
          have HF : Aside0 (dealQ rows owners secret random = (sharesQ rows (secret :: random), (secret :: random).map commitQ, 0)) := ⟨by unfold dealQ; rw [if_pos hd0, hq1, hq2, decide_eq_true hn]; rfl⟩
          have HL := Aside0.mk (And.intro hcl hn)
          have HNC := Aside0.mk hn
          have HD0 := Aside0.mk hd0
          have HC := Aside0.mk (fun W (g0 : Sl (Kd.slice 3 (Kd.int .i64)) W A0 c0 rows) (g1 : Sl (Kd.int .i64) W A1 c1 owners) => dealing_columns.calls A0 c0 rows A1 c1 owners (colsP rows : Int) W g0.rd g0.le g1.rd g1.le cols_math)
          clear hq1 hq2 hd0 hcl hn
          go_enter Try.func22, Try.ntmps22
          go_wp2_with fail
          obtain ⟨w1, hw⟩ : ∃ W_, W_ = w.alloc (.cells #[.slice A0 rows.length c0, .slice A1 owners.length c1] 25) := ⟨_, rfl⟩
          rw [← hw]
          have hb : Below w.heap.size w w1 := by rw [hw]; exact below_alloc1 _ _
          have hz : w.heap.size = w.heap.size := rfl
          have hs : w1.heap.size = w.heap.size + 1 := by rw [hw, ← hz]; simp
          replace H_rows := Aside0.mk (H_rows.out.below hb)
          replace H_own := Aside0.mk (H_own.out.below hb)
          replace H_rnd := Aside0.mk (H_rnd.out.below hb)
          replace HB := Aside0.mk (below_then HB.out HB.out.size hb)
          have H_two0 := Aside0.mk (⟨by rw [hw, ← hz]; simp only [World.cell?]; rw [World.alloc_heap_new]; rfl, by rw [hs]; omega⟩ : w1.cell? ⟨w.heap.size, 0, none⟩ = some (.slice A0 rows.length c0) ∧ w.heap.size < w1.heap.size)
          have H_two1 := Aside0.mk (⟨by rw [hw, ← hz]; simp only [World.cell?]; rw [World.alloc_heap_new]; rfl, by rw [hs]; omega⟩ : w1.cell? ⟨w.heap.size, 1, none⟩ = some (.slice A1 owners.length c1) ∧ w.heap.size < w1.heap.size)
          clear hw hb hz
          have HZ := Aside0.mk hs; clear hs
          refine (HK.out _ H_rows.out H_own.out).mono ?_
          rintro e w2 ⟨rfl, hb⟩
          replace H_rows := Aside0.mk (H_rows.out.below hb)
          replace H_own := Aside0.mk (H_own.out.below hb)
          replace H_rnd := Aside0.mk (H_rnd.out.below hb)
          replace H_two0 := Aside0.mk (cell_on H_two0.out hb)
          replace H_two1 := Aside0.mk (cell_on H_two1.out hb)
          replace HB := Aside0.mk (below_then HB.out HB.out.size hb)
          clear hb
          go_wp2_with fail
          obtain ⟨w3, hw⟩ : ∃ W_, W_ = w2.alloc (.cells #[.int .i64 secret] 3) := ⟨_, rfl⟩
          rw [← hw]
          have hb : Below w2.heap.size w2 w3 := by rw [hw]; exact below_alloc1 _ _
          have hz : w2.heap.size = w2.heap.size := rfl
          have hs : w3.heap.size = w2.heap.size + 1 := by rw [hw, ← hz]; simp
          have hl : Sl (Kd.int .i64) w3 (some ⟨w2.heap.size, 0, none⟩) 1 [secret] := by rw [hw, ← hz]; exact Sl.ints w2 3 [secret] (by show 1 ≤ 1000000; decide)
          replace H_rows := Aside0.mk (H_rows.out.below hb)
          replace H_own := Aside0.mk (H_own.out.below hb)
          replace H_rnd := Aside0.mk (H_rnd.out.below hb)
          replace H_two0 := Aside0.mk (cell_on H_two0.out hb)
          replace H_two1 := Aside0.mk (cell_on H_two1.out hb)
          replace HB := Aside0.mk (below_then HB.out HB.out.size hb)
          have H_s1 := Aside0.mk hl; clear hl
          clear hw hb hz
          have HZ := Aside0.mk hs; clear hs
          have HQ := numbers_w H_s1.out
          rw [HS1.out] at HQ
          refine (HQ).mono ?_
          rintro e w4 ⟨rfl, hb⟩
          replace H_rows := Aside0.mk (H_rows.out.below hb)
          replace H_own := Aside0.mk (H_own.out.below hb)
          replace H_rnd := Aside0.mk (H_rnd.out.below hb)
          replace H_two0 := Aside0.mk (cell_on H_two0.out hb)
          replace H_two1 := Aside0.mk (cell_on H_two1.out hb)
          clear H_s1
          replace HB := Aside0.mk (below_then HB.out HB.out.size hb)
          clear hb
          clear HQ
          go_wp2_with fail
          have HQ := numbers_w H_rnd.out
          rw [HS2.out] at HQ
          refine (HQ).mono ?_
          rintro e w5 ⟨rfl, hb⟩
          replace H_rows := Aside0.mk (H_rows.out.below hb)
          replace H_own := Aside0.mk (H_own.out.below hb)
          replace H_rnd := Aside0.mk (H_rnd.out.below hb)
          replace H_two0 := Aside0.mk (cell_on H_two0.out hb)
          replace H_two1 := Aside0.mk (cell_on H_two1.out hb)
          replace HB := Aside0.mk (below_then HB.out HB.out.size hb)
          clear hb
          clear HQ
          have q1 : ((random.length : Int) != wrap64 ((colsP rows : Int) - 1)) = false := bne_eq_false_iff_eq.mpr (by have := HL.out; unfold wrap64; omega)
          have q2 : ((random.length : Int) == wrap64 ((colsP rows : Int) - 1)) = true := beq_iff_eq.mpr (by have := HL.out; unfold wrap64; omega)
          generalize colsP rows = n at HC HL q1 q2
          have x_two0 := H_two0.out.1
          have x_two1 := H_two1.out.1
          go_wp2_with fail
          clear x_two0 x_two1
          refine (HC.out _ H_rows.out H_own.out).mono ?_
          rintro e w6 ⟨rfl, hb⟩
          replace H_rows := Aside0.mk (H_rows.out.below hb)
          clear H_own
          replace H_rnd := Aside0.mk (H_rnd.out.below hb)
          replace H_two0 := Aside0.mk (cell_on H_two0.out hb)
          clear H_two1
          replace HB := Aside0.mk (below_then HB.out HB.out.size hb)
          clear hb
          clear HC
          go_wp2_with fail
          clear q1 q2
          obtain ⟨w7, hw⟩ : ∃ W_, W_ = w6.alloc (.cells #[.int .i64 secret] 3) := ⟨_, rfl⟩
          rw [← hw]
          have hb : Below w6.heap.size w6 w7 := by rw [hw]; exact below_alloc1 _ _
          have hz : w6.heap.size = w6.heap.size := rfl
          have hs : w7.heap.size = w6.heap.size + 1 := by rw [hw, ← hz]; simp
          have hl : Sl (Kd.int .i64) w7 (some ⟨w6.heap.size, 0, none⟩) 1 [secret] := by rw [hw, ← hz]; exact Sl.ints w6 3 [secret] (by show 1 ≤ 1000000; decide)
          replace H_rows := Aside0.mk (H_rows.out.below hb)
          replace H_rnd := Aside0.mk (H_rnd.out.below hb)
          replace H_two0 := Aside0.mk (cell_on H_two0.out hb)
          replace HB := Aside0.mk (below_then HB.out HB.out.size hb)
          have H_s1 := Aside0.mk hl; clear hl
          clear hw hb hz
          have HZ := Aside0.mk hs; clear hs
          obtain ⟨w8, hw⟩ : ∃ W_, W_ = w7.alloc (.cells #[.slice (some ⟨w6.heap.size, 0, none⟩) 1 1, .slice A2 random.length c2] 23) := ⟨_, rfl⟩
          rw [← hw]
          have hb : Below w7.heap.size w7 w8 := by rw [hw]; exact below_alloc1 _ _
          have hz : w7.heap.size = w6.heap.size + 1 := HZ.out
          have hs : w8.heap.size = w6.heap.size + 1 + 1 := by rw [hw, ← hz]; simp
          have hl : Sl (Kd.slice 3 (Kd.int .i64)) w8 (some ⟨w6.heap.size + 1, 0, none⟩) 2 [[secret], random] := by rw [hw, ← hz]; exact Sl.rows w7 23 3 [.slice (some ⟨w6.heap.size, 0, none⟩) 1 1, .slice A2 random.length c2] [[secret], random] (.cons (SlAt.mk_ H_s1.out) (.cons (SlAt.mk_ H_rnd.out) SlsAt.nil)) (by show 2 ≤ 1000000; decide)
          replace H_rows := Aside0.mk (H_rows.out.below hb)
          replace H_rnd := Aside0.mk (H_rnd.out.below hb)
          replace H_two0 := Aside0.mk (cell_on H_two0.out hb)
          replace H_s1 := Aside0.mk (H_s1.out.below hb)
          replace HB := Aside0.mk (below_then HB.out HB.out.size hb)
          have H_both := Aside0.mk hl; clear hl
          clear hw hb hz
          have HZ := Aside0.mk hs; clear hs
          refine (slices_Concat_int_int.calls _ _ [[secret], random] (secret :: random) _ H_both.out.rd H_both.out.le (by unfold slices_Concat_int_int.f; rw [if_pos (by have := HL.out; simp [sizesOf]; omega)]; simp)).mono ?_
          rintro e w9 ⟨v5, rfl, h5, hb⟩
          replace H_rows := Aside0.mk (H_rows.out.below hb)
          clear H_rnd
          replace H_two0 := Aside0.mk (cell_on H_two0.out hb)
          clear H_s1
          clear H_both
          replace HB := Aside0.mk (below_then HB.out HB.out.size hb)
          obtain ⟨As, cs, rfl, hs⟩ := Sl.ofR h5
          have H_s := Aside0.mk hs
          clear hb h5 hs
          obtain ⟨s, hsd⟩ : ∃ s, s = secret :: random := ⟨_, rfl⟩
          rw [← hsd] at H_s HF ⊢
          have HSL : Aside0 (s.length = n ∧ n ≤ 64) := ⟨by rw [hsd, List.length_cons]; have := HL.out; omega⟩
          have HROW : Aside0 (∀ i, i < rows.length → (rows.getD i []).length ≤ s.length) := ⟨fun i hi => deal_row HD0.out HNC.out hsd hi⟩
          clear hsd
          obtain ⟨Wa, hWa⟩ : ∃ W_, W_ = w9 := ⟨_, rfl⟩
          rw [← hWa] at H_rows H_s H_two0 HB ⊢
          clear hWa
          have x0 := H_two0.out.1
          go_wp2_with fail
          clear x0
          go_loopg [6, 47] rows.length (fun gk v6 v47 wr => ∃ i : Nat, i ≤ rows.length ∧ gk = rows.length - i ∧ v47 = .int .i64 (i : Int) ∧ Aside0 (Kd.R k38 38 wr Wa.heap.size (fun k_ => Wa.heap.size ≤ k_) v6 ((List.range i).map (shareQ rows s)) ∧ Below Wa.heap.size Wa wr))
          case atStart => exact ⟨0, Nat.zero_le _, rfl, rfl, ⟨Kd.R_nil _ _ _ _ _, Below.refl _ _⟩⟩
          case round =>
            obtain ⟨i, hi, rfl, rfl, HX⟩ := hrel
            by_cases hlt : i < rows.length
            · have d1 : decide ((i : Int) < (rows.length : Int)) = true := decide_eq_true (by omega)
              have d2 : decide (i < rows.length) = true := decide_eq_true hlt
              have d3 : (0 : Int) ≤ (i : Int) := by omega
              obtain ⟨ar, Ar, cr, e, z1, z2, z3⟩ := at_L1 H_rows.out.rd (i : Int) (by omega) (by omega)
              cases e
              rw [rd_L1_nat] at z1 z2 z3
              rw [Int.toNat_natCast] at z1
              have hbx := HX.out.2
              replace z1 := (hbx.cell (World.block_lt_of_cell? Wa _ z1)).trans z1
              replace z3 := Kd.C_below z3 hbx
              have hss := H_s.out.below hbx
              have hT := fun W (hb : Below wr.heap.size wr W) => dealing_times.calls Ar cr (rows.getD i []) As cs s (Sig.dot (rows.getD i []) s % 1073741789) W (Kd.C_below z3 hb) z2 (Kd.C_below hss.rd hb) hss.le (by unfold dealing_times.f; rw [if_pos (HROW.out i hlt)])
              have hsh : (List.range i).map (shareQ rows s) ++ [⟨(i : Int), Sig.dot (rows.getD i []) s % 1073741789⟩] = (List.range (i + 1)).map (shareQ rows s) := by rw [List.range_succ, List.map_append]; rfl
              have hlen : ((List.range i).map (shareQ rows s)).length = i := by simp
              have hrl : rows.length ≤ 64 := (check_ok HD0.out).few
              have HT := Aside0.mk hT; have HSH := Aside0.mk hsh; have HO := Aside0.mk HX.out.1; have HBX := Aside0.mk hbx; have HLEN := Aside0.mk hlen; have HRL := Aside0.mk hrl
              generalize Sig.dot (rows.getD i []) s % 1073741789 = y at HT HSH
              generalize (List.range i).map (shareQ rows s) = acc at HO HSH HLEN
              generalize (rows.getD i []).length = rl at z1 HT
              clear hT z2 z3 hss hbx hsh hlen HX hrl
              obtain ⟨vA, vc, rfl⟩ := Kd.R_slice HO.out
              go_wp2_with fail
              refine (HT.out _ (Below.refl _ _)).mono ?_
              rintro e wb ⟨rfl, hb⟩
              have HO2 := Aside0.mk (Kd.R_below HO.out hb)
              have HBB := Aside0.mk (below_then HBX.out HBX.out.size hb)
              clear hb z1 HT HO HBX
              go_wp2_with (at_builtin; refine Kd.R_append k38 (w0 := Wa) Wa.heap.size rfl (.tmp 52) (.tmp 58) 26 38 (.agg #[.int .i64 0, .int .i64 0]) 16 rfl (by kernel_rfl) (by kernel_rfl) rfl (by decide) (by decide) (.slice vA acc.length vc) acc ⟨(i : Int), y⟩ [.int .i64 (i : Int), .int .i64 y] (fun k_ => Wa.heap.size ≤ k_) (fun _ => False) rfl rfl (k38_mkM _ _ _ ⟨(i : Int), y⟩) (fun _ hk => hk.elim) (fun k hk => Nat.le_trans HBB.out.size hk) HO2.out HBB.out HBB.out.size (by have := HLEN.out; have := HRL.out; omega) ?_; intro v1 wc ho hbc hg hat; have HO3 := Aside0.mk ho; have HB3 := Aside0.mk hbc; clear ho hbc hg hat)
              go_roundg (rows.length - (i + 1))
              case measure => omega
              case rel => exact ⟨i + 1, by omega, rfl, by first | rfl | rw [wrap_succ (by have := HRL.out; omega)], ⟨by rw [← HSH.out]; exact HO3.out, HB3.out⟩⟩
            · obtain rfl : i = rows.length := by omega
              have d1 : decide ((rows.length : Int) < (rows.length : Int)) = false := decide_eq_false (by omega)
              have HO := Aside0.mk (show Kd.R k38 38 wr Wa.heap.size (fun k_ => Wa.heap.size ≤ k_) _ (sharesQ rows s) from HX.out.1)
              have H_s2 := Aside0.mk (H_s.out.below HX.out.2)
              have HB2 := Aside0.mk (below_then HB.out HB.out.size HX.out.2)
              have HGE := Aside0.mk (Nat.le_trans HB.out.size HX.out.2.size)
              have HGE0 := Aside0.mk HB.out.size
              clear H_s H_rows HB H_two0 HX HROW
              obtain ⟨vA, vc, rfl⟩ := Kd.R_slice HO.out
              generalize wr = Wb at HO H_s2 HB2 HGE HGE0 ⊢
              go_wp2_with fail
              go_loopg [6, 7, 63] s.length (fun gk v6 v7 v63 wq => v6 = .slice vA (sharesQ rows s).length vc ∧ ∃ j : Nat, j ≤ s.length ∧ gk = s.length - j ∧ v63 = .int .i64 (j : Int) ∧ Aside0 (Kd.R (Kd.int .i64) 3 wq Wb.heap.size (fun k_ => Wb.heap.size ≤ k_) v7 ((s.take j).map commitQ) ∧ Below Wb.heap.size Wb wq))
              case atStart => exact ⟨rfl, 0, Nat.zero_le _, rfl, rfl, ⟨Kd.R_nil _ _ _ _ _, Below.refl _ _⟩⟩
              case round =>
                obtain ⟨rfl, j, hj, rfl, rfl, HX⟩ := hrel
                by_cases hlt : j < s.length
                · have e1 : decide ((j : Int) < (s.length : Int)) = true := decide_eq_true (by omega)
                  have e2 : decide (j < s.length) = true := decide_eq_true hlt
                  have e3 : (0 : Int) ≤ (j : Int) := by omega
                  obtain ⟨as_, e, y1⟩ := Kd.at_int H_s2.out.rd (j : Int) (by omega) (by omega)
                  cases e
                  rw [rd_nat, Int.toNat_natCast] at y1
                  replace y1 := (HX.out.2.cell (World.block_lt_of_cell? _ _ y1)).trans y1
                  have htk : (s.take j).map commitQ ++ [commitQ (s.getD j 0)] = (s.take (j + 1)).map commitQ := by rw [List.take_succ_eq_append_getElem hlt, List.map_append, List.getD_eq_getElem?_getD, List.getElem?_eq_getElem hlt]; rfl
                  have hlen : ((s.take j).map commitQ).length = j := by rw [List.length_map, List.length_take]; omega
                  have HTK := Aside0.mk htk; have HQ := Aside0.mk HX.out.1; have HBX := Aside0.mk HX.out.2; have HLEN := Aside0.mk hlen
                  generalize s.getD j 0 = x at y1 HTK
                  generalize (s.take j).map commitQ = acc at HQ HTK HLEN
                  clear htk hlen HX
                  obtain ⟨vB, vd, rfl⟩ := Kd.R_slice HQ.out
                  go_wp2_with fail
                  refine (group_Pow.calls 4 x _ _ _ (pow_four x)).mono ?_
                  rintro e wb ⟨rfl, hb⟩
                  have HQ2 := Aside0.mk (Kd.R_below HQ.out hb)
                  have HBB := Aside0.mk (below_then HBX.out HBX.out.size hb)
                  clear hb y1 HQ HBX
                  generalize commitQ x = y at HTK ⊢
                  go_wp2_with (at_builtin; refine Kd.R_append (Kd.int .i64) (w0 := Wb) Wb.heap.size rfl (.tmp 75) (.tmp 77) 23 3 (.int .i64 0) 8 rfl (by kernel_rfl) (by kernel_rfl) rfl (by decide) (by decide) (.slice vB acc.length vd) acc y [.int .i64 y] (fun k_ => Wb.heap.size ≤ k_) (fun _ => False) rfl rfl rfl (fun _ hk => hk.elim) (fun k hk => Nat.le_trans HBB.out.size hk) HQ2.out HBB.out HBB.out.size (by have := HLEN.out; have := HSL.out; omega) ?_; intro v1 wc ho hbc hg hat; have HQ3 := Aside0.mk ho; have HB3 := Aside0.mk hbc; clear ho hbc hg hat)
                  go_roundg (s.length - (j + 1))
                  case measure => omega
                  case rel => exact ⟨rfl, j + 1, by omega, rfl, by first | rfl | rw [wrap_succ (by have := HSL.out; omega)], ⟨by rw [← HTK.out]; exact HQ3.out, HB3.out⟩⟩
                · obtain rfl : j = s.length := by omega
                  have e1 : decide ((s.length : Int) < (s.length : Int)) = false := decide_eq_false (by omega)
                  have hx := HX.out.1
                  rw [List.take_length] at hx
                  have HQ := Aside0.mk hx; have HBX := Aside0.mk HX.out.2; clear hx HX
                  obtain ⟨vB, vd, rfl⟩ := Kd.R_slice HQ.out
                  go_wp2
                  go_ret3
                  rw [HF.out]
                  exact ⟨_, _, rfl, Kd.R_mono (Kd.R_lower (Kd.R_below HO.out HBX.out) HGE0.out) (fun k hk => Nat.le_trans HGE0.out hk), Kd.R_mono (Kd.R_lower HQ.out HGE.out) (fun k hk => Nat.le_trans HGE.out hk), below_then HB2.out HB2.out.size HBX.out⟩
        · skip
          have HF : Aside0 (dealQ rows owners secret random = ([], [], 1)) := ⟨by unfold dealQ; rw [if_pos hd0, hq1, hq2, decide_eq_false hn]; rfl⟩
          have HC := Aside0.mk (fun W (g0 : Sl (Kd.slice 3 (Kd.int .i64)) W A0 c0 rows) (g1 : Sl (Kd.int .i64) W A1 c1 owners) => dealing_columns.calls A0 c0 rows A1 c1 owners (colsP rows : Int) W g0.rd g0.le g1.rd g1.le cols_math)
          have HL := Aside0.mk (And.intro hcl hn)
          clear hq1 hq2 hd0 hcl hn
          go_enter Try.func22, Try.ntmps22
          go_wp2_with fail
          obtain ⟨w1, hw⟩ : ∃ W_, W_ = w.alloc (.cells #[.slice A0 rows.length c0, .slice A1 owners.length c1] 25) := ⟨_, rfl⟩
          rw [← hw]
          have hb : Below w.heap.size w w1 := by rw [hw]; exact below_alloc1 _ _
          have hz : w.heap.size = w.heap.size := rfl
          have hs : w1.heap.size = w.heap.size + 1 := by rw [hw, ← hz]; simp
          replace H_rows := Aside0.mk (H_rows.out.below hb)
          replace H_own := Aside0.mk (H_own.out.below hb)
          replace H_rnd := Aside0.mk (H_rnd.out.below hb)
          replace HB := Aside0.mk (below_then HB.out HB.out.size hb)
          have H_two0 := Aside0.mk (⟨by rw [hw, ← hz]; simp only [World.cell?]; rw [World.alloc_heap_new]; rfl, by rw [hs]; omega⟩ : w1.cell? ⟨w.heap.size, 0, none⟩ = some (.slice A0 rows.length c0) ∧ w.heap.size < w1.heap.size)
          have H_two1 := Aside0.mk (⟨by rw [hw, ← hz]; simp only [World.cell?]; rw [World.alloc_heap_new]; rfl, by rw [hs]; omega⟩ : w1.cell? ⟨w.heap.size, 1, none⟩ = some (.slice A1 owners.length c1) ∧ w.heap.size < w1.heap.size)
          clear hw hb hz
          have HZ := Aside0.mk hs; clear hs
          refine (HK.out _ H_rows.out H_own.out).mono ?_
          rintro e w2 ⟨rfl, hb⟩
          replace H_rows := Aside0.mk (H_rows.out.below hb)
          replace H_own := Aside0.mk (H_own.out.below hb)
          replace H_rnd := Aside0.mk (H_rnd.out.below hb)
          replace H_two0 := Aside0.mk (cell_on H_two0.out hb)
          replace H_two1 := Aside0.mk (cell_on H_two1.out hb)
          replace HB := Aside0.mk (below_then HB.out HB.out.size hb)
          clear hb
          go_wp2_with fail
          obtain ⟨w3, hw⟩ : ∃ W_, W_ = w2.alloc (.cells #[.int .i64 secret] 3) := ⟨_, rfl⟩
          rw [← hw]
          have hb : Below w2.heap.size w2 w3 := by rw [hw]; exact below_alloc1 _ _
          have hz : w2.heap.size = w2.heap.size := rfl
          have hs : w3.heap.size = w2.heap.size + 1 := by rw [hw, ← hz]; simp
          have hl : Sl (Kd.int .i64) w3 (some ⟨w2.heap.size, 0, none⟩) 1 [secret] := by rw [hw, ← hz]; exact Sl.ints w2 3 [secret] (by show 1 ≤ 1000000; decide)
          replace H_rows := Aside0.mk (H_rows.out.below hb)
          replace H_own := Aside0.mk (H_own.out.below hb)
          replace H_rnd := Aside0.mk (H_rnd.out.below hb)
          replace H_two0 := Aside0.mk (cell_on H_two0.out hb)
          replace H_two1 := Aside0.mk (cell_on H_two1.out hb)
          replace HB := Aside0.mk (below_then HB.out HB.out.size hb)
          have H_s1 := Aside0.mk hl; clear hl
          clear hw hb hz
          have HZ := Aside0.mk hs; clear hs
          have HQ := numbers_w H_s1.out
          rw [HS1.out] at HQ
          refine (HQ).mono ?_
          rintro e w4 ⟨rfl, hb⟩
          replace H_rows := Aside0.mk (H_rows.out.below hb)
          replace H_own := Aside0.mk (H_own.out.below hb)
          replace H_rnd := Aside0.mk (H_rnd.out.below hb)
          replace H_two0 := Aside0.mk (cell_on H_two0.out hb)
          replace H_two1 := Aside0.mk (cell_on H_two1.out hb)
          clear H_s1
          replace HB := Aside0.mk (below_then HB.out HB.out.size hb)
          clear hb
          clear HQ
          go_wp2_with fail
          have HQ := numbers_w H_rnd.out
          rw [HS2.out] at HQ
          refine (HQ).mono ?_
          rintro e w5 ⟨rfl, hb⟩
          replace H_rows := Aside0.mk (H_rows.out.below hb)
          replace H_own := Aside0.mk (H_own.out.below hb)
          replace H_rnd := Aside0.mk (H_rnd.out.below hb)
          replace H_two0 := Aside0.mk (cell_on H_two0.out hb)
          replace H_two1 := Aside0.mk (cell_on H_two1.out hb)
          replace HB := Aside0.mk (below_then HB.out HB.out.size hb)
          clear hb
          clear HQ
          have q1 : ((random.length : Int) != wrap64 ((colsP rows : Int) - 1)) = true := bne_iff_ne.mpr (by have := HL.out; unfold wrap64; omega)
          have q2 : ((random.length : Int) == wrap64 ((colsP rows : Int) - 1)) = false := beq_eq_false_iff_ne.mpr (by have := HL.out; unfold wrap64; omega)
          generalize colsP rows = n at HC HL q1 q2
          have x_two0 := H_two0.out.1
          have x_two1 := H_two1.out.1
          go_wp2_with fail
          clear x_two0 x_two1
          refine (HC.out _ H_rows.out H_own.out).mono ?_
          rintro e w6 ⟨rfl, hb⟩
          replace H_rows := Aside0.mk (H_rows.out.below hb)
          replace H_own := Aside0.mk (H_own.out.below hb)
          replace H_rnd := Aside0.mk (H_rnd.out.below hb)
          replace H_two0 := Aside0.mk (cell_on H_two0.out hb)
          replace H_two1 := Aside0.mk (cell_on H_two1.out hb)
          replace HB := Aside0.mk (below_then HB.out HB.out.size hb)
          clear hb
          go_wp2
          go_ret3
          rw [HF.out]
          exact ⟨_, _, rfl, Kd.R_nil _ _ _ _ _, Kd.R_nil _ _ _ _ _, HB.out⟩
  · skip
    have HF : Aside0 (dealQ rows owners secret random = ([], [], t)) := ⟨by unfold dealQ; rw [← ht, if_neg h]⟩
    clear ht
    have q1 : (t == 0) = false := beq_eq_false_iff_ne.mpr h
    have q2 : (t != 0) = true := bne_iff_ne.mpr h
    go_enter Try.func22, Try.ntmps22
    go_wp2_with fail
    obtain ⟨w1, hw⟩ : ∃ W_, W_ = w.alloc (.cells #[.slice A0 rows.length c0, .slice A1 owners.length c1] 25) := ⟨_, rfl⟩
    rw [← hw]
    have hb : Below w.heap.size w w1 := by rw [hw]; exact below_alloc1 _ _
    have hz : w.heap.size = w.heap.size := rfl
    have hs : w1.heap.size = w.heap.size + 1 := by rw [hw, ← hz]; simp
    replace H_rows := Aside0.mk (H_rows.out.below hb)
    replace H_own := Aside0.mk (H_own.out.below hb)
    replace H_rnd := Aside0.mk (H_rnd.out.below hb)
    replace HB := Aside0.mk (below_then HB.out HB.out.size hb)
    have H_two0 := Aside0.mk (⟨by rw [hw, ← hz]; simp only [World.cell?]; rw [World.alloc_heap_new]; rfl, by rw [hs]; omega⟩ : w1.cell? ⟨w.heap.size, 0, none⟩ = some (.slice A0 rows.length c0) ∧ w.heap.size < w1.heap.size)
    have H_two1 := Aside0.mk (⟨by rw [hw, ← hz]; simp only [World.cell?]; rw [World.alloc_heap_new]; rfl, by rw [hs]; omega⟩ : w1.cell? ⟨w.heap.size, 1, none⟩ = some (.slice A1 owners.length c1) ∧ w.heap.size < w1.heap.size)
    clear hw hb hz
    have HZ := Aside0.mk hs; clear hs
    refine (HK.out _ H_rows.out H_own.out).mono ?_
    rintro e w2 ⟨rfl, hb⟩
    replace H_rows := Aside0.mk (H_rows.out.below hb)
    replace H_own := Aside0.mk (H_own.out.below hb)
    replace H_rnd := Aside0.mk (H_rnd.out.below hb)
    replace H_two0 := Aside0.mk (cell_on H_two0.out hb)
    replace H_two1 := Aside0.mk (cell_on H_two1.out hb)
    replace HB := Aside0.mk (below_then HB.out HB.out.size hb)
    clear hb
    go_wp2
    go_ret3
    rw [HF.out]
    exact ⟨_, _, rfl, Kd.R_nil _ _ _ _ _, Kd.R_nil _ _ _ _ _, HB.out⟩
end Go.Proofs.Ytdbamhckgaoibaa.P
namespace Go.Proofs.Ytdbamhckgaoibaa.P
open Go.RowKit Go.Proofs.YtdbamhckgaoibaaW.PrintWords Go.Proofs.YtdbamhckgaoibaaW.PrintLast Go.Proofs.YtdbamhckgaoibaaW.PrintMore
theorem deal_good {rows : List (List Int)} {owners : List Int} {secret : Int} {random : List Int} (hc : checkP rows owners = 0) (hs : inQ secret = true) (hr : random.any outQ = false) (hl : random.length + 1 = colsP rows) :
    dealQ rows owners secret random = (sharesQ rows (secret :: random), (secret :: random).map commitQ, 0) := by
  unfold dealQ
  rw [if_pos hc, hs, hr, decide_eq_true hl]; rfl
theorem deal_odd {rows : List (List Int)} {owners : List Int} {secret : Int} {random : List Int} (hc : checkP rows owners = 0) (hs : inQ secret = false) : dealQ rows owners secret random = ([], [], 1) := by
  unfold dealQ
  rw [if_pos hc, hs]; rfl
theorem noEl_commit (s : List Int) : (s.map commitQ).any noEl = false := by
  rw [List.any_eq_false]
  intro x hx
  obtain ⟨n, _, rfl⟩ := List.mem_map.1 hx
  unfold noEl
  rw [commitQ_el]; decide
theorem check_dealt {rows : List (List Int)} {owners : List Int} {s : List Int} (hc : checkP rows owners = 0) (hl : s.length = colsP rows) : checkD rows owners (s.map commitQ) = 0 := by
  unfold checkD
  rw [if_pos hc, if_pos ⟨by rw [List.length_map, hl], noEl_commit s⟩]
theorem pub_dealt : ∀ (s row : List Int) (y : Int), pubFrom (commitQ y) (s.map commitQ) row = commitQ (y + Sig.dot row s)
  | [], row, y => by
    rw [List.map_nil, Sig.dot_nil_r, Int.add_zero]
    cases row <;> rfl
  | x :: s, [], y => by rw [Sig.dot_nil_l, Int.add_zero]; rfl
  | x :: s, e :: row, y => by
    rw [List.map_cons, pubFrom, commitQ_pow, commitQ_add, pub_dealt s row, Sig.dot]
    congr 1
    rw [Int.mul_comm x e]; omega
theorem public_dealt {rows : List (List Int)} {owners : List Int} {s : List Int} (hc : checkP rows owners = 0) (hl : s.length = colsP rows) {i : Nat} (hi : i < rows.length) :
    publicD rows owners (s.map commitQ) (i : Int) = (commitQ (Sig.dot (rows.getD i []) s), 0) := by
  unfold publicD
  rw [if_pos (check_dealt hc hl), if_pos ⟨by omega, by omega⟩, Int.toNat_natCast, ← commitQ_zero, pub_dealt, Int.zero_add]
theorem fits_dealt {rows : List (List Int)} {owners : List Int} {s : List Int} (hc : checkP rows owners = 0) (hl : s.length = colsP rows) {i : Nat} (hi : i < rows.length) {v : Int} (hv : inQ v = true) :
    fitsD rows owners (s.map commitQ) (i : Int) v = (commitQ v == commitQ (Sig.dot (rows.getD i []) s), 0) := by
  have hr : rightS rows.length ⟨(i : Int), v⟩ = true := by
    unfold rightS
    simp only [hv, Bool.and_true]
    rw [decide_eq_true (by omega), decide_eq_true (by omega)]; rfl
  unfold fitsD
  rw [if_pos (check_dealt hc hl), hr, public_dealt hc hl hi]; rfl
theorem cols_pos {rows : List (List Int)} {owners : List Int} (hc : checkP rows owners = 0) : 1 ≤ colsP rows := by
  have hP := check_ok hc
  unfold colsP
  split
  · decide
  · have := (hP.row 0 (by omega)).1
    omega
end Go.Proofs.Ytdbamhckgaoibaa.P
namespace Go.Proofs.Ytdbamhckgaoibaa.P
open Go.RowKit Go.Proofs.YtdbamhckgaoibaaW.PrintWords Go.Proofs.YtdbamhckgaoibaaW.PrintLast Go.Proofs.YtdbamhckgaoibaaW.PrintMore
theorem finv_one : Sig.finv 1 = 1 := by unfold Sig.finv; rw [Int.one_pow]; rfl
def pivotG (g : Int → Int) (t : List (List Int)) (r k c : Nat) : List (List Int) :=
  let own := Sig.times (t.getD k []) (g (Sig.ent t k c))
  (((t.set k (t.getD r [])).map fun row => Sig.less row own (row.getD c 0))).set r own
def stepG (g : Int → Int) (st : List (List Int) × List Nat) (c : Nat) : List (List Int) × List Nat :=
  if Sig.find st.1 c st.2.length < st.1.length then (pivotG g st.1 st.2.length (Sig.find st.1 c st.2.length) c, st.2 ++ [c]) else st
def reduceG (g : Int → Int) (t : List (List Int)) (many : Nat) : List (List Int) × List Nat := (List.range many).foldl (stepG g) (t, [])
def combineG (g : Int → Int) (rows : List (List Int)) (target : List Int) : Option (List Int) :=
  if Sig.fits (reduceG g (Sig.turned rows target) rows.length).1 (reduceG g (Sig.turned rows target) rows.length).2.length rows.length then
    some (Sig.combY (reduceG g (Sig.turned rows target) rows.length).1 (reduceG g (Sig.turned rows target) rows.length).2 rows.length) else none
def inv1 (x : Int) : Int := if x = 1 then 1 else Sig.finv x
theorem inv1_eq : inv1 = Sig.finv := funext fun x => by
  unfold inv1
  split
  · rename_i h; subst h; exact finv_one.symm
  · rfl
theorem combine_inv1 (rows : List (List Int)) (target : List Int) : Sig.combine rows target = combineG inv1 rows target := by rw [inv1_eq]; rfl
def sameS : List S38 → List S38 → Bool
  | [], [] => true
  | a :: l, b :: m => a.f0 == b.f0 && a.f1 == b.f1 && sameS l m
  | [], _ :: _ => false
  | _ :: _, [] => false
theorem sameS_iff : ∀ (l m : List S38), sameS l m = true ↔ l = m
  | [], [] => ⟨fun _ => rfl, fun _ => rfl⟩
  | [], _ :: _ => ⟨fun h => (by cases h), fun h => (by cases h)⟩
  | _ :: _, [] => ⟨fun h => (by cases h), fun h => (by cases h)⟩
  | ⟨a0, a1⟩ :: l, ⟨b0, b1⟩ :: m => by
    simp only [sameS, Bool.and_eq_true, beq_iff_eq, List.cons.injEq, S38.mk.injEq, sameS_iff l m]
theorem sameS_refl (l : List S38) : sameS l l = true := (sameS_iff l l).2 rfl
theorem sameS_length : ∀ (l m : List S38), l.length ≠ m.length → sameS l m = false := fun l m h => by
  cases e : sameS l m with
  | false => rfl
  | true => exact absurd (congrArg List.length ((sameS_iff l m).1 e)) h
theorem rdT_nat (l : List S38) (i : Nat) (h : i < l.length) : rd_T38 l (i : Int) = l[i] := by
  unfold rd_T38; rw [Int.toNat_natCast, List.getD_eq_getElem?_getD, List.getElem?_eq_getElem h]; rfl
theorem same_l0 (l m : List S38) (hl : l.length < 1000000) (he : l.length = m.length) (k : Nat) : ∀ d j, l.length - j = d → j ≤ l.length → signatoryref34_Same.l0 (k + d + 1) l m (j : Int) = some (sameS (l.drop j) (m.drop j)) := by
  intro d
  induction d with
  | zero =>
    intro j hd hj
    obtain rfl : j = l.length := by omega
    rw [signatoryref34_Same.l0, if_neg (by omega), List.drop_length, he, List.drop_length]; rfl
  | succ d ih =>
    intro j hd hj
    have h1 : j < l.length := by omega
    have h2 : j < m.length := by omega
    rw [signatoryref34_Same.l0, if_pos (by omega), if_pos (by omega), if_pos (by omega), rdT_nat l j h1, rdT_nat m j h2, List.drop_eq_getElem_cons h1, List.drop_eq_getElem_cons h2, sameS]
    cases e0 : (l[j].f0 == m[j].f0) with
    | false => simp
    | true =>
      cases e1 : (l[j].f1 == m[j].f1) with
      | false => simp
      | true =>
        rw [if_neg (by decide), wrap_succ (by omega), ← Nat.add_assoc, ih (j + 1) (by omega) (by omega)]; rfl
theorem same_math (l m : List S38) (hl : l.length < 1000000) (k : Nat) (hk : l.length < k) : signatoryref34_Same.f k l m = some (sameS l m) := by
  unfold signatoryref34_Same.f
  by_cases h : l.length = m.length
  · rw [if_pos (by omega)]
    obtain ⟨k, rfl⟩ : ∃ k', k = k' + l.length + 1 := ⟨k - l.length - 1, by omega⟩
    exact same_l0 l m hl h k l.length 0 (by omega) (by omega)
  · rw [if_neg (by omega), sameS_length l m h]
end Go.Proofs.Ytdbamhckgaoibaa.P
namespace Go.Proofs.Ytdbamhckgaoibaa.P
open Go.RowKit Go.Proofs.YtdbamhckgaoibaaW.PrintWords Go.Proofs.YtdbamhckgaoibaaW.PrintLast Go.Proofs.YtdbamhckgaoibaaW.PrintMore
theorem small_math (rows : List (List Int)) (owners : List Int) (k : Nat) (hk : 5000 ≤ k) : signatoryref34_Small.f k rows owners = some (decide (rows.length ≤ 16) && decide (checkP rows owners = 0) && decide (colsP rows ≤ 16)) := by
  unfold signatoryref34_Small.f
  by_cases h : rows.length ≤ 16
  · rw [if_pos (by omega), refCheck_math _ _ _ hk, Option.bind_some, decide_eq_true h]
    by_cases hc : checkP rows owners = 0
    · rw [if_pos hc, colsRef_math, Option.bind_some, decide_eq_true hc]
      by_cases h2 : colsP rows ≤ 16
      · rw [decide_eq_true h2, decide_eq_true (by omega)]; rfl
      · rw [decide_eq_false h2, decide_eq_false (by omega)]; rfl
    · rw [if_neg hc, decide_eq_false hc]; rfl
  · rw [if_neg (by omega), decide_eq_false h]; rfl
theorem randomQ_ok {m : Nat} {l : List Int} (h : ∀ x ∈ l, 0 ≤ x ∧ x < 4294967296) : (randomQ m l).any outQ = false := by
  refine outQ_inF fun x hx => ?_
  unfold randomQ at hx
  obtain ⟨i, _, rfl⟩ := List.mem_map.1 hx
  split
  · rename_i hi
    have hm : l.getD i 0 ∈ l := by rw [List.getD_eq_getElem?_getD, List.getElem?_eq_getElem hi]; exact List.getElem_mem hi
    have := fieldOf_inQ (h _ hm).1 (h _ hm).2
    unfold inQ at this
    rw [Bool.and_eq_true, decide_eq_true_eq, decide_eq_true_eq] at this
    exact this
  · exact ⟨by decide, by decide⟩
theorem shares_len (rows : List (List Int)) (s : List Int) : (sharesQ rows s).length = rows.length := by simp [sharesQ]
theorem shares_rd1 {rows : List (List Int)} {s : List Int} {j : Nat} (h : j < rows.length) : rd_T38 (sharesQ rows s) (j : Int) = ⟨(j : Int), Sig.dot (rows.getD j []) s % 1073741789⟩ := by
  rw [rdT_nat _ _ (by rw [shares_len]; exact h)]
  simp [sharesQ, shareQ]
theorem word_inQ {x : Int} (h : (Lit.int .u32 x).wf = true) : 0 ≤ x ∧ x < 4294967296 := by
  simp only [Lit.wf, Bool.and_eq_true, decide_eq_true_eq] at h
  simp [IntKind.min, IntKind.max, IntKind.bits, IntKind.signed] at h
  omega
end Go.Proofs.Ytdbamhckgaoibaa.P
namespace Go.Proofs.Ytdbamhckgaoibaa.P
open Go.RowKit Go.Proofs.YtdbamhckgaoibaaW.PrintWords Go.Proofs.YtdbamhckgaoibaaW.PrintLast Go.Proofs.YtdbamhckgaoibaaW.PrintMore
set_option linter.unusedVariables false
set_option linter.unusedSimpArgs false
theorem mk_target (n : Nat) : (madeCells #[Value.int .i64 0] n).setIfInBounds 0 (.int .i64 1) = (nums .i64 ((List.replicate n 0).set 0 1)).toArray := by
  have hl : (madeCells #[Value.int .i64 0] n).toList = nums .i64 (List.replicate n 0) := by
    apply List.ext_getElem
    · simp [nums, madeCells]
    · intro i h1 h2
      simp [nums, madeCells, Nat.mod_one]
  apply Array.ext'
  rw [Array.toList_setIfInBounds, hl]
  simp [nums, List.map_set]
set_option maxRecDepth 100000 in
set_option maxHeartbeats 4000000 in
theorem recover_bad (A0 : Option Addr) (c0 : Nat) (rows : List (List Int)) (A1 : Option Addr) (c1 : Nat) (owners : List Int) (As : Option Addr) (cs : Nat) (ls : List S38) (w : World)
    (hr0 : Kd.C (Kd.slice 3 (Kd.int .i64)) w A0 rows.length rows) (hc0 : rows.length ≤ c0) (hr1 : Kd.C (Kd.int .i64) w A1 owners.length owners) (hc1 : owners.length ≤ c1) (hk : checkP rows owners ≠ 0) :
    Calls Try.prog 24 #[.agg #[.slice A0 rows.length c0, .slice A1 owners.length c1], .slice As ls.length cs] w fun e w' => e = .returned (.tuple #[.int .i64 0, .bool false, .int .i64 (checkP rows owners)]) ∧ Below w.heap.size w w' := by
  have hb0 : Below w.heap.size w (w.alloc (.cells #[.slice A0 rows.length c0, .slice A1 owners.length c1] 25)) := (Below.refl _ _).alloc (Nat.le_refl _) _
  have HC := Aside0.mk (program_Check.calls 66 A0 c0 rows A1 c1 owners (checkP rows owners) _ (Kd.C_below hr0 hb0) hc0 (Kd.C_below hr1 hb0) hc1 (check_math _ _ _ (Nat.le_refl _)))
  have HB0 := Aside0.mk hb0
  generalize checkP rows owners = e at hk HC ⊢
  have hkb : (e == 0) = false := beq_eq_false_iff_ne.2 hk
  clear hr0 hr1 hc0 hc1 hb0 hk
  go_enter Try.func24, Try.ntmps24
  go_wp2_with (go_at_call 82; refine HC.out.mono ?_; rintro e' w' ⟨rfl, hb⟩; have HB := Aside0.mk (below_then HB0.out (by simp) hb); clear hb HC)
  go_ret3
  exact ⟨rfl, HB.out⟩
set_option maxRecDepth 100000 in
set_option maxHeartbeats 8000000 in
theorem recover_good (A0 : Option Addr) (c0 : Nat) (rows : List (List Int)) (A1 : Option Addr) (c1 : Nat) (owners : List Int) (As : Option Addr) (cs : Nat) (ls : List S38) (w : World)
    (hr0 : Kd.C (Kd.slice 3 (Kd.int .i64)) w A0 rows.length rows) (hc0 : rows.length ≤ c0) (hr1 : Kd.C (Kd.int .i64) w A1 owners.length owners) (hc1 : owners.length ≤ c1) (hrs : Kd.C k38 w As ls.length ls) (hcs : ls.length ≤ cs) (hk : checkP rows owners = 0) :
    Calls Try.prog 24 #[.agg #[.slice A0 rows.length c0, .slice A1 owners.length c1], .slice As ls.length cs] w fun e w' => e = .returned (.tuple #[.int .i64 (recQ rows owners ls).1, .bool (recQ rows owners ls).2.1, .int .i64 (recQ rows owners ls).2.2]) ∧ Below w.heap.size w w' := by
  have hrq : recQ rows owners ls = if sharesOk rows.length (-1) ls then recT rows ls else (0, false, 340) := by unfold recQ; rw [if_pos hk]
  generalize hres : recQ rows owners ls = res at hrq ⊢
  obtain ⟨W0, hW0⟩ : ∃ W0, w.alloc (.cells #[.slice A0 rows.length c0, .slice A1 owners.length c1] 25) = W0 := ⟨_, rfl⟩
  have hb0 : Below w.heap.size w W0 := by rw [← hW0]; exact (Below.refl _ _).alloc (Nat.le_refl _) _
  have hz0 : W0.heap.size = w.heap.size + 1 := by rw [← hW0]; simp
  have p0 : W0.cell? ⟨w.heap.size, 0, none⟩ = some (.slice A0 rows.length c0) := by
    rw [← hW0]; simp only [World.cell?]; rw [World.alloc_heap_new]; rfl
  have p1 : W0.cell? ⟨w.heap.size, 1, none⟩ = some (.slice A1 owners.length c1) := by
    rw [← hW0]; simp only [World.cell?]; rw [World.alloc_heap_new]; rfl
  have HC := Aside0.mk (program_Check.calls 66 A0 c0 rows A1 c1 owners 0 W0 (Kd.C_below hr0 hb0) hc0 (Kd.C_below hr1 hb0) hc1 (hk ▸ check_math _ _ _ (Nat.le_refl _)))
  have HRT : Aside0 (∀ (W : World) (hb : Below W0.heap.size W0 W) (s : S38), Calls Try.prog 91 #[.agg #[.slice A0 rows.length c0, .slice A1 owners.length c1], .agg #[.int .i64 s.f0, .int .i64 s.f1]] W fun e w' => e = .returned (.bool (rightS rows.length s)) ∧ Below W.heap.size W w') := ⟨fun W hb s => right_w ⟨hc0, Kd.C_below (Kd.C_below hr0 hb0) hb⟩ ⟨hc1, Kd.C_below (Kd.C_below hr1 hb0) hb⟩⟩
  have HRS := Aside0.mk (Kd.C_below hrs hb0)
  have HR0 := Aside0.mk (Kd.C_below hr0 hb0)
  have HR1 := Aside0.mk (Kd.C_below hr1 hb0)
  have HB0 := Aside0.mk hb0
  have HP := Aside0.mk (And.intro p0 p1)
  have HRQ := Aside0.mk hrq
  have HK := Aside0.mk hk
  have HW0 := Aside0.mk hW0
  have HZ0 := Aside0.mk hz0
  have hlen : ls.length ≤ 9223372036854775807 := hrs.2.1
  have q0 := World.block_lt_of_cell? W0 _ p0
  simp only at q0
  clear hr0 hr1 hrs hb0 hrq hk hW0 hz0 hres
  go_enter Try.func24, Try.ntmps24
  go_wp2_with (go_at_call 82; rw [HW0.out]; refine HC.out.mono ?_; rintro e' w1 ⟨rfl, hb⟩; have HB1 := Aside0.mk hb; clear hb HC)
  go_loopg [8, 20] ls.length (fun gk v8 v20 w' => ∃ (j : Nat) (last : Int), j ≤ ls.length ∧ gk = ls.length - j ∧ v20 = .int .i64 (j : Int) ∧ v8 = .int .i64 last ∧ Aside0 (sharesOk rows.length (-1) ls = sharesOk rows.length last (ls.drop j)) ∧ Aside0 (Below W0.heap.size W0 w'))
  case atStart => exact ⟨0, -1, Nat.zero_le _, rfl, rfl, rfl, ⟨rfl⟩, HB1⟩
  case round =>
    obtain ⟨j, last, hj, rfl, rfl, rfl, HS, HB⟩ := hrel
    have r0 := (HB.out.cell (p := ⟨w.heap.size, 0, none⟩) q0).trans HP.out.1
    have r1 := (HB.out.cell (p := ⟨w.heap.size, 1, none⟩) q0).trans HP.out.2
    have q1 : w.heap.size < wr.heap.size := Nat.lt_of_lt_of_le q0 HB.out.size
    by_cases hlt : j < ls.length
    · have d1 : decide ((j : Int) < (ls.length : Int)) = true := decide_eq_true (by omega)
      have d2 : decide (j < ls.length) = true := decide_eq_true hlt
      have d4 : (0 : Int) ≤ (j : Int) := by omega
      obtain ⟨ad, e, x1, x2⟩ := at_T38 HRS.out (j : Int) (by omega) (by omega)
      cases e
      rw [Int.toNat_natCast] at x1 x2
      replace x1 := (HB.out.cell (World.block_lt_of_cell? W0 _ x1)).trans x1
      replace x2 := (HB.out.cell (World.block_lt_of_cell? W0 _ x2)).trans x2
      have hrd : rd_T38 ls (j : Int) = ls[j] := by unfold rd_T38; rw [Int.toNat_natCast, List.getD_eq_getElem?_getD, List.getElem?_eq_getElem hlt]; rfl
      rw [hrd] at x1 x2
      have hdr : ls.drop j = ls[j] :: ls.drop (j + 1) := List.drop_eq_getElem_cons hlt
      have hso : sharesOk rows.length (-1) ls = (rightS rows.length ls[j] && decide (last < ls[j].f0) && sharesOk rows.length ls[j].f0 (ls.drop (j + 1))) := by rw [HS.out, hdr]; rfl
      generalize ls[j] = s at x1 x2 hso hrd
      have HSO := Aside0.mk hso
      obtain ⟨f0, f1⟩ := s
      simp only at x1 x2
      obtain ⟨W2, hW2⟩ : ∃ W2, wr.alloc (.cells #[.int .i64 f0, .int .i64 f1] 38) = W2 := ⟨_, rfl⟩
      have hb2 : Below wr.heap.size wr W2 := by rw [← hW2]; exact (Below.refl _ _).alloc (Nat.le_refl _) _
      have HB2 := Aside0.mk (below_then HB.out HB.out.size hb2)
      have HRC := Aside0.mk (HRT.out W2 HB2.out ⟨f0, f1⟩)
      have HW2 := Aside0.mk hW2
      have n0 : W2.cell? ⟨wr.heap.size, 0, none⟩ = some (.int .i64 f0) := by rw [← hW2]; simp only [World.cell?]; rw [World.alloc_heap_new]; rfl
      have n1 : W2.cell? ⟨wr.heap.size, 1, none⟩ = some (.int .i64 f1) := by rw [← hW2]; simp only [World.cell?]; rw [World.alloc_heap_new]; rfl
      have n2 : wr.heap.size < W2.heap.size := by rw [← hW2]; simp
      have HN := Aside0.mk (And.intro n0 n2)
      clear hso hrd hdr hW2 hb2 n0 n1 n2
      cases hrb : rightS rows.length ⟨f0, f1⟩ with
      | false =>
        rw [hrb] at HRC
        have HF : Aside0 (sharesOk rows.length (-1) ls = false) := ⟨by rw [HSO.out, hrb]; rfl⟩
        clear hrb
        go_wp2_with (go_at_call 91; rw [HW2.out]; refine HRC.out.mono ?_; rintro e w3 ⟨rfl, hb3⟩; have HB3 := Aside0.mk (below_then HB2.out HB2.out.size hb3); have n0 := (hb3.cell (p := ⟨wr.heap.size, 0, none⟩) HN.out.2).trans HN.out.1; clear hb3 HRC)
        go_ret3
        refine ⟨?_, HB0.out.trans (HB3.out.mono HB0.out.size)⟩
        rw [HRQ.out, HF.out]; rfl
      | true =>
        rw [hrb] at HRC
        by_cases hle : f0 ≤ last
        · have hlb : decide (f0 ≤ last) = true := decide_eq_true hle
          have HF : Aside0 (sharesOk rows.length (-1) ls = false) := ⟨by rw [HSO.out, decide_eq_false (show ¬ last < f0 by omega), Bool.and_false, Bool.false_and]⟩
          clear hrb hle
          go_wp2_with (go_at_call 91; rw [HW2.out]; refine HRC.out.mono ?_; rintro e w3 ⟨rfl, hb3⟩; have HB3 := Aside0.mk (below_then HB2.out HB2.out.size hb3); have n0 := (hb3.cell (p := ⟨wr.heap.size, 0, none⟩) HN.out.2).trans HN.out.1; clear hb3 HRC)
          go_ret3
          refine ⟨?_, HB0.out.trans (HB3.out.mono HB0.out.size)⟩
          rw [HRQ.out, HF.out]; rfl
        · have hlb : decide (f0 ≤ last) = false := decide_eq_false hle
          have HF : Aside0 (sharesOk rows.length (-1) ls = sharesOk rows.length f0 (ls.drop (j + 1))) := ⟨by rw [HSO.out, hrb, decide_eq_true (show last < f0 by omega)]; rfl⟩
          clear hrb hle
          go_wp2_with (go_at_call 91; rw [HW2.out]; refine HRC.out.mono ?_; rintro e w3 ⟨rfl, hb3⟩; have HB3 := Aside0.mk (below_then HB2.out HB2.out.size hb3); have n0 := (hb3.cell (p := ⟨wr.heap.size, 0, none⟩) HN.out.2).trans HN.out.1; clear hb3 HRC)
          go_roundg (ls.length - (j + 1))
          case measure => omega
          case rel => exact ⟨j + 1, f0, by omega, rfl, by first | rfl | rw [wrap_nextB (by omega)], rfl, HF, HB3⟩
    · obtain rfl : j = ls.length := by omega
      have d1 : decide ((ls.length : Int) < (ls.length : Int)) = false := decide_eq_false (by omega)
      have hso : sharesOk rows.length (-1) ls = true := by rw [HS.out, List.drop_length]; rfl
      have hrec : res = recT rows ls := by rw [HRQ.out, hso]; rfl
      obtain ⟨hk1, hk2, hk3, hk4⟩ := combOk_rec HK.out hso
      have hcol0 : 0 < colsP rows := by rw [targetP_length] at hk3; exact hk3
      have hcol1 : colsP rows ≤ 64 := by rw [targetP_length] at hk4; exact hk4
      have HCO := Aside0.mk (fun (W : World) (hb : Below W0.heap.size W0 W) => dealing_columns.calls A0 c0 rows A1 c1 owners (colsP rows : Int) W (Kd.C_below HR0.out hb) hc0 (Kd.C_below HR1.out hb) hc1 cols_math)
      have HK1 := Aside0.mk hk1
      have HK2 := Aside0.mk hk2
      have HK3 := Aside0.mk hk3
      have HK4 := Aside0.mk hk4
      have HREC := Aside0.mk hrec
      have HSO := Aside0.mk hso
      have htl := targetP_length rows
      have htp : targetP rows = (List.replicate (colsP rows) 0).set 0 1 := rfl
      have HTL := Aside0.mk htl
      have HTP := Aside0.mk htp
      have HRW := Aside0.mk (show (rowsOf rows ls).length = ls.length from List.length_map _)
      generalize hn : colsP rows = n at HCO hcol0 hcol1 HTL HTP
      have hmk := print_make (P := Try.prog) 23 3 .i64 8 (by kernel_rfl) (by kernel_rfl) (by decide) n (by omega)
      have hm0 : (madeCells #[Value.int .i64 0] n)[0]? = some (.int .i64 0) := by simp [madeCells, hcol0]
      clear hk1 hk2 hk3 hk4 hrec hso htl htp hn
      go_wp2_with (go_at_call 84; refine (HCO.out _ HB.out).mono ?_; rintro e w3 ⟨rfl, hb3⟩; have HB3 := Aside0.mk (below_then HB.out HB.out.size hb3); have r0 := (hb3.cell (p := ⟨w.heap.size, 0, none⟩) q1).trans r0; have r1 := (hb3.cell (p := ⟨w.heap.size, 1, none⟩) q1).trans r1; have q3 : w.heap.size < w3.heap.size := Nat.lt_of_lt_of_le q1 hb3.size; clear hb3)
      have hcells := mk_target n
      rw [← HTP.out] at hcells
      rw [hcells]
      obtain ⟨W4, hW4⟩ : ∃ W4, w3.alloc (.cells (nums .i64 (targetP rows)).toArray 3) = W4 := ⟨_, rfl⟩
      rw [hW4]
      have ho4 : W4.ownsRow w3.heap.size 3 1 (.slice (some ⟨w3.heap.size, 0, none⟩) (targetP rows).length (targetP rows).length) (targetP rows).length (nums .i64 (targetP rows)) := by
        rw [← hW4]; exact own_lit w3 w3.heap.size 3 .i64 (targetP rows) (Nat.le_refl _) (by have := HK4.out; omega)
      have hb4 : Below w3.heap.size w3 W4 := by rw [← hW4]; exact (Below.refl _ _).alloc (Nat.le_refl _) _
      have HB4 := Aside0.mk (below_then HB3.out HB3.out.size hb4)
      obtain ⟨A4, c4, e4, hc4, hC4⟩ := Kd.R_reads (R_of_owns (ok := fun _ => True) ho4 (fun _ _ => trivial))
      injection e4 with e4 _ e5
      subst e4 e5
      have HT4 := Aside0.mk hC4
      have r0' := (hb4.cell (p := ⟨w.heap.size, 0, none⟩) q3).trans r0
      have q4 := Nat.lt_of_lt_of_le q3 hb4.size
      have HLN := Aside0.mk (show (targetP rows).length = n from HTL.out)
      clear hcells hW4 ho4 hb4 hC4 hc4 r0 r1 hmk hm0 HCO
      refine (rows_c _ _ _ _ _ _ _ _ _ _).mono ?_
      rintro e w5 ⟨rfl, hw5⟩
      have hb5 : Below W4.heap.size W4 w5 := by rw [hw5]; exact ((Below.refl _ _).alloc (Nat.le_refl _) _).alloc (by simp) _
      have g1 : w5.cell? ⟨W4.heap.size + 1, 0, none⟩ = some (.slice As ls.length cs) := by
        rw [hw5]
        simp
      have g2 : w5.cell? ⟨W4.heap.size, 0, none⟩ = some (.slice A0 rows.length c0) := by
        rw [hw5]
        have h1 : (W4.alloc (.cells #[.slice A0 rows.length c0, .slice A1 owners.length c1] 25)).cell? ⟨W4.heap.size, 0, none⟩ = some (.slice A0 rows.length c0) := by
          simp only [World.cell?]; rw [World.alloc_heap_new]; rfl
        exact (((Below.refl _ (W4.alloc (.cells #[.slice A0 rows.length c0, .slice A1 owners.length c1] 25))).alloc (Nat.le_refl _) (.cells #[.slice As ls.length cs] 26)).cell (p := ⟨W4.heap.size, 0, none⟩) (by simp)).trans h1
      have HB5 := Aside0.mk (below_then HB4.out HB4.out.size hb5)
      have HB45 := Aside0.mk hb5
      have hall := sharesOk_all ls _ HSO.out
      have hin : ∀ s ∈ ls, 0 ≤ s.f0 ∧ s.f0 < (rows.length : Int) := fun s hx => by
        have := hall s hx
        simp only [rightS, Bool.and_eq_true, decide_eq_true_eq] at this
        exact this.1
      have hadr : 0 < ls.length → A0 = some (A0.getD ⟨0, 0, none⟩) := fun h => by
        obtain ⟨h1, h2⟩ := hin _ (List.getElem_mem h)
        obtain ⟨ad, _, _, e, _⟩ := at_L1 HR0.out ls[0].f0 h1 h2
        rw [e]; rfl
      have HIT := Aside0.mk (rows1_it w5 (W4.heap.size + 1) W4.heap.size As cs ls A0 (A0.getD ⟨0, 0, none⟩) c0 rows g1 g2 hadr (Kd.C_below HRS.out HB5.out) (Kd.C_below HR0.out HB5.out) hin)
      have HGE := Aside0.mk (hb5.size)
      obtain ⟨yv, hyv⟩ : ∃ yv, yv = ls.map fun s => (w5.cell? ((A0.getD ⟨0, 0, none⟩).add s.f0.toNat)).getD undef := ⟨_, rfl⟩
      rw [← hyv] at HIT
      have hyat : ∀ i, i < (rowsOf rows ls).length → ∃ A c, yv[i]? = some (.slice A ((rowsOf rows ls).getD i []).length c) ∧ ((rowsOf rows ls).getD i []).length ≤ c ∧ Kd.C (Kd.int .i64) w5 A ((rowsOf rows ls).getD i []).length ((rowsOf rows ls).getD i []) := fun i hi => by
        rw [HRW.out] at hi
        obtain ⟨h1, h2⟩ := hin _ (List.getElem_mem hi)
        obtain ⟨ad, A, c, e, x1, x2, x3⟩ := at_L1 (Kd.C_below HR0.out HB5.out) ls[i].f0 h1 h2
        have er : (rowsOf rows ls).getD i [] = rd_L1 rows ls[i].f0 := by
          unfold rowsOf rd_L1
          rw [List.getD_eq_getElem?_getD, List.getElem?_map, List.getElem?_eq_getElem hi]; rfl
        rw [er]
        refine ⟨A, c, ?_, x2, x3⟩
        rw [hyv, List.getElem?_map, List.getElem?_eq_getElem hi]
        rw [show A0.getD ⟨0, 0, none⟩ = ad from by rw [e]; rfl]
        simp [x1]
      have hyl : yv.length = ls.length := by rw [hyv, List.length_map]
      have hysl : ∀ v ∈ yv, ∃ A n c, v = Value.slice A n c := fun v hv => by
        obtain ⟨i, hi, rfl⟩ := List.getElem_of_mem hv
        obtain ⟨A, c, h1, _⟩ := hyat i (by rw [HRW.out, ← hyl]; exact hi)
        rw [List.getElem?_eq_getElem hi] at h1
        injection h1 with h1
        exact ⟨A, _, c, h1⟩
      have hl64 : yv.length ≤ 64 := by have := HK2.out; rw [HRW.out] at this; omega
      have HCL := Aside0.mk (collect_c (g := 171) (fun args w => enters_ Try.func171 (by kernel_rfl) rfl args w) HIT.out hysl (by omega))
      have HYA := Aside0.mk hyat
      have HYL := Aside0.mk hyl
      clear hw5 hb5 g1 g2 hall hin hadr hyv hyat hysl hyl hl64 HIT r0'
      go_wp2_with fail
      refine HCL.out.mono ?_
      rintro e w6 ⟨v6, rfl, ho6, hb6⟩
      have HB6 := Aside0.mk (below_then HB5.out HB5.out.size hb6)
      obtain ⟨A6, c6, rfl, hc6, hC6⟩ := C_of_own ho6 (HYL.out.trans HRW.out.symm) (by have := HK2.out; omega) (fun i hi => by
        obtain ⟨A, c, x1, x2, x3⟩ := HYA.out i hi
        exact ⟨A, c, x1, x2, Kd.C_below x3 hb6⟩)
      have hC4' := Kd.C_below (Kd.C_below HT4.out HB45.out) hb6
      have HCB := combine_c A6 c6 (rowsOf rows ls) (some ⟨w3.heap.size, 0, none⟩) (targetP rows).length (targetP rows) w6 hC6 hc6 hC4' (Nat.le_refl _) HK1.out HK2.out HK3.out HK4.out
      rw [HLN.out] at HCB
      unfold CombPost at HCB
      have hrec := HREC.out
      unfold recT at hrec
      have HCB := Aside0.mk HCB
      clear ho6 hb6 hC6 hC4' HCL HYA HYL
      cases hcmb : Sig.combine (rowsOf rows ls) (targetP rows) with
      | none =>
        rw [hcmb] at hrec HCB
        have HREC2 := Aside0.mk hrec
        clear hrec hcmb
        go_wp2_with fail
        refine HCB.out.mono ?_
        rintro e w7 ⟨v7, rfl, hR7, hb7⟩
        obtain ⟨A7, c7, rfl, _, _⟩ := Kd.R_reads hR7
        have HB7 := Aside0.mk (below_then HB6.out HB6.out.size hb7)
        clear hR7 hb7 HCB
        go_wp2
        go_ret3
        refine ⟨by rw [HREC2.out]; rfl, ?_⟩
        have h7 := HB0.out.trans (HB7.out.mono HB0.out.size)
        exact h7.alloc h7.size _
      | some y =>
        rw [hcmb] at hrec HCB
        have hyl := Sig.combine_length hcmb
        rw [HRW.out] at hyl
        have HREC2 := Aside0.mk hrec
        have HYL2 := Aside0.mk hyl
        clear hrec hcmb hyl
        go_wp2_with fail
        refine HCB.out.mono ?_
        rintro e w7 ⟨v7, rfl, hR7, hb7⟩
        obtain ⟨A7, c7, rfl, _, hC7⟩ := Kd.R_reads hR7
        have HB7 := Aside0.mk (below_then HB6.out HB6.out.size hb7)
        obtain ⟨W8, hW8⟩ : ∃ W8, w7.alloc (.cells #[.slice A7 y.length c7] 23) = W8 := ⟨_, rfl⟩
        have hb8 : Below w7.heap.size w7 W8 := by rw [← hW8]; exact (Below.refl _ _).alloc (Nat.le_refl _) _
        have hx8 : Bx W8 w7.heap.size (.slice A7 y.length c7) := by rw [← hW8]; exact Bx.new _ _ _
        have HB8 := Aside0.mk (below_then HB7.out HB7.out.size hb8)
        have HC8 := Aside0.mk (Kd.C_below hC7 hb8)
        have HX8 := Aside0.mk hx8
        have HW8 := Aside0.mk hW8
        have HSM := Aside0.mk (sumShare_c (g := 96) (fun args w => enters_ Try.func96 (by kernel_rfl) rfl args w) ⟨w7.heap.size, 0, none⟩ (fun i => y.getD i 0 * (rd_T38 ls (i : Int)).f1 % 1073741789) As cs ls W8 (Kd.C_below HRS.out HB8.out) (fun i W hi hW =>
          recover1_c w7.heap.size A7 c7 y i (rd_T38 ls (i : Int)).f0 (rd_T38 ls (i : Int)).f1 W (HX8.out.below hW).1 (Kd.C_below HC8.out hW) (by rw [HYL2.out]; exact hi)))
        have hmf : ∀ (fn : Fn) (first cap : Array Value) (w : World), (Instr.makeFunc fn first cap).run Try.prog w = .ok (.func fn first cap) w := fun _ _ _ _ => rfl
        clear hR7 hb7 hC7 HCB hW8 hb8 hx8
        go_wp2_with (go_at_call 95; rw [HW8.out]; refine HSM.out.mono ?_; rintro e w9 ⟨rfl, hb9⟩; have HB9 := Aside0.mk (below_then HB8.out HB8.out.size hb9); clear hb9)
        go_ret3
        refine ⟨by rw [HREC2.out]; rfl, ?_⟩
        exact HB0.out.trans (HB9.out.mono HB0.out.size)
def dealing_Recover.f (l0_0 : List (List Int)) (l0_1 : List Int) (l1 : List S38) : Option (Int × Bool × Int) := some (recQ l0_0 l0_1 l1)
theorem dealing_Recover.calls (A0_0 : Option Addr) (c0_0 : Nat) (l0_0 : List (List Int)) (A0_1 : Option Addr) (c0_1 : Nat) (l0_1 : List Int) (A1 : Option Addr) (c1 : Nat) (l1 : List S38) (r1 : Int) (r2 : Bool) (r3 : Int) (w : World) (hr0_0 : Kd.C (Kd.slice 3 (Kd.int .i64)) w A0_0 l0_0.length l0_0) (hc0_0 : l0_0.length ≤ c0_0) (hr0_1 : Kd.C (Kd.int .i64) w A0_1 l0_1.length l0_1) (hc0_1 : l0_1.length ≤ c0_1) (hr1 : Kd.C k38 w A1 l1.length l1) (hc1 : l1.length ≤ c1) (h : dealing_Recover.f l0_0 l0_1 l1 = some (r1, r2, r3)) :
    Calls Try.prog 24 #[.agg #[.slice A0_0 l0_0.length c0_0, .slice A0_1 l0_1.length c0_1], .slice A1 l1.length c1] w fun e w' => e = .returned (.tuple #[.int .i64 r1, .bool r2, .int .i64 r3]) ∧ Below w.heap.size w w' := by
  have h : recQ l0_0 l0_1 l1 = (r1, r2, r3) := Option.some.inj h
  by_cases hk : checkP l0_0 l0_1 = 0
  · have := recover_good A0_0 c0_0 l0_0 A0_1 c0_1 l0_1 A1 c1 l1 w hr0_0 hc0_0 hr0_1 hc0_1 hr1 hc1 hk
    rw [h] at this
    exact this
  · have := recover_bad A0_0 c0_0 l0_0 A0_1 c0_1 l0_1 A1 c1 l1 w hr0_0 hc0_0 hr0_1 hc0_1 hk
    unfold recQ at h
    rw [if_neg hk] at h
    cases h
    exact this
end Go.Proofs.Ytdbamhckgaoibaa.P
namespace Go.Proofs.Ytdbamhckgaoibaa.P
open Go.RowKit Go.Proofs.YtdbamhckgaoibaaW.PrintWords Go.Proofs.YtdbamhckgaoibaaW.PrintLast Go.Proofs.YtdbamhckgaoibaaW.PrintMore
set_option linter.unusedVariables false
def dealing_Deal.f (l0_0 : List (List Int)) (l0_1 : List Int) (a1 : Int) (l2 : List Int) : Option (List S38 × List Int × Int) := some (dealQ l0_0 l0_1 a1 l2)
theorem dealing_Deal.calls (A0_0 : Option Addr) (c0_0 : Nat) (l0_0 : List (List Int)) (A0_1 : Option Addr) (c0_1 : Nat) (l0_1 : List Int) (a1 : Int) (A2 : Option Addr) (c2 : Nat) (l2 : List Int) (r1 : List (S38)) (r2 : List Int) (r3 : Int) (w : World) (hr0_0 : Kd.C (Kd.slice 3 (Kd.int .i64)) w A0_0 l0_0.length l0_0) (hc0_0 : l0_0.length ≤ c0_0) (hr0_1 : Kd.C (Kd.int .i64) w A0_1 l0_1.length l0_1) (hc0_1 : l0_1.length ≤ c0_1) (hr2 : Kd.C (Kd.int .i64) w A2 l2.length l2) (hc2 : l2.length ≤ c2) (h : dealing_Deal.f l0_0 l0_1 a1 l2 = some (r1, r2, r3)) :
    Calls Try.prog 22 #[.agg #[.slice A0_0 l0_0.length c0_0, .slice A0_1 l0_1.length c0_1], .int .i64 a1, .slice A2 l2.length c2] w fun e w' => ∃ v0_ v1_ : Value, e = .returned (.tuple #[v0_, v1_, .int .i64 r3]) ∧ Kd.R k38 38 w' w.heap.size (fun _ => True) v0_ r1 ∧ Kd.R (Kd.int .i64) 3 w' w.heap.size (fun _ => True) v1_ r2 ∧ Below w.heap.size w w' := by
  have h : dealQ l0_0 l0_1 a1 l2 = (r1, r2, r3) := Option.some.inj h
  have := deal_w (secret := a1) (w := w) ⟨hc0_0, hr0_0⟩ ⟨hc0_1, hr0_1⟩ ⟨hc2, hr2⟩
  rw [h] at this
  refine this.mono ?_
  rintro e w' ⟨v0, v1, rfl, g0, g1, hb⟩
  exact ⟨v0, v1, rfl, Kd.R_mono g0 (fun _ _ => trivial), Kd.R_mono g1 (fun _ _ => trivial), hb⟩
end Go.Proofs.Ytdbamhckgaoibaa.P
namespace Go.Proofs.Ytdbamhckgaoibaa.P
open Go.RowKit Go.Proofs.YtdbamhckgaoibaaW.PrintWords Go.Proofs.YtdbamhckgaoibaaW.PrintLast Go.Proofs.YtdbamhckgaoibaaW.PrintMore
def pickS (rows : List (List Int)) (s : List Int) (idx : List Nat) : List S38 := idx.map (shareQ rows s)
end Go.Proofs.Ytdbamhckgaoibaa.P
namespace Go.Proofs.Ytdbamhckgaoibaa.P
open Go.RowKit Go.Proofs.YtdbamhckgaoibaaW.PrintWords Go.Proofs.YtdbamhckgaoibaaW.PrintLast Go.Proofs.YtdbamhckgaoibaaW.PrintMore
def ownIdx (owners who : List Int) (n : Nat) : List Nat := (List.range n).filter fun i => who.contains (owners.getD i 0)
def peopleOk : Int → List Int → Bool
  | _, [] => true
  | last, n :: l => decide (0 ≤ n) && decide (n ≤ 63) && decide (last < n) && peopleOk n l
def ownRows (rows : List (List Int)) (owners who : List Int) : List (List Int) := (ownIdx owners who rows.length).map fun i => rows.getD i []
def refuQ (rows : List (List Int)) (owners who : List Int) : List Int × Bool × Int :=
  if checkP rows owners = 0 then (if peopleOk (-1) who = true then (match Sig.separate (ownRows rows owners who) (targetP rows) with | some w => (w, true, 0) | none => ([], false, 0)) else ([], false, 1)) else ([], false, checkP rows owners)
theorem ownIdx_lt {owners who : List Int} {n i : Nat} (h : i ∈ ownIdx owners who n) : i < n := List.mem_range.1 (List.mem_filter.1 h).1
theorem ownIdx_le (owners who : List Int) (n : Nat) : (ownIdx owners who n).length ≤ n := by
  have := List.length_filter_le (fun i => who.contains (owners.getD i 0)) (List.range n)
  rw [List.length_range] at this
  exact this
theorem row_cols {rows : List (List Int)} {owners : List Int} (hc : checkP rows owners = 0) {i : Nat} (hi : i < rows.length) : (rows.getD i []).length = colsP rows := by
  rw [colsP, if_neg (by omega)]; exact ((check_ok hc).row i hi).2.1
theorem ownRows_right {rows : List (List Int)} {owners : List Int} (hc : checkP rows owners = 0) (who : List Int) : Sig.RectT (ownRows rows owners who) (targetP rows) ∧ (ownRows rows owners who).length ≤ 64 ∧ 0 < (targetP rows).length ∧ (targetP rows).length ≤ 64 := by
  have hP := check_ok hc
  refine ⟨⟨fun row hx => ?_, targetP_inF rows⟩, ?_, ?_, ?_⟩
  · obtain ⟨i, hi, rfl⟩ := List.mem_map.1 hx
    exact ⟨(row_cols hc (ownIdx_lt hi)).trans (targetP_length rows).symm, (hP.row i (ownIdx_lt hi)).2.2.2⟩
  · unfold ownRows
    rw [List.length_map]; have := ownIdx_le owners who rows.length; have := hP.few; omega
  · rw [targetP_length]; exact cols_pos hc
  · rw [targetP_length]; exact cols_le hc
def shiftQ (by_ : Int) (s w : List Int) : List Int := List.zipWith (fun n x => (n + by_ * x) % 1073741789) s w
theorem shiftQ_length {by_ : Int} {s w : List Int} (h : s.length = w.length) : (shiftQ by_ s w).length = s.length := by unfold shiftQ; rw [List.length_zipWith]; omega
theorem shiftQ_inQ {by_ : Int} {s w : List Int} : ∀ x ∈ shiftQ by_ s w, inQ x = true := fun x hx => by
  unfold shiftQ at hx
  obtain ⟨i, hi, rfl⟩ := List.getElem_of_mem hx
  rw [List.getElem_zipWith]
  unfold inQ
  rw [Bool.and_eq_true, decide_eq_true_eq, decide_eq_true_eq]; omega
theorem shiftQ_dot (by_ : Int) : ∀ (r s w : List Int), s.length = w.length → Sig.dot r (shiftQ by_ s w) % 1073741789 = (Sig.dot r s + by_ * Sig.dot r w) % 1073741789
  | [], s, w, _ => by simp [Sig.dot_nil_l]
  | x :: r, [], [], _ => by simp [shiftQ, Sig.dot_nil_r]
  | x :: r, a :: s, b :: w, h => by
    have ih := shiftQ_dot by_ r s w (by simpa using h)
    rw [show shiftQ by_ (a :: s) (b :: w) = (a + by_ * b) % 1073741789 :: shiftQ by_ s w from rfl, Sig.dot, Sig.dot, Sig.dot, Int.add_emod, ih, Sig.mul_emod_r, ← Int.add_emod]
    have e : x * (a + by_ * b) + (Sig.dot r s + by_ * Sig.dot r w) = x * a + Sig.dot r s + by_ * (x * b + Sig.dot r w) := by
      rw [Int.mul_add, Int.mul_add, Int.mul_left_comm x by_ b]; omega
    rw [e]
theorem dot_target_l : ∀ (c : Nat), 0 < c → ∀ (v : List Int), v.length = c → Sig.dot ((List.replicate c (0 : Int)).set 0 1) v = v.getD 0 0
  | c + 1, _, v, hv => by
    match v, hv with
    | x :: v, hv =>
      rw [List.replicate_succ, List.set_cons_zero, Sig.dot, Sig.dot_comm, Sig.dot_zeros]
      simp
theorem refu_parts {rows : List (List Int)} {owners who w : List Int} (hc : checkP rows owners = 0) (h : Sig.separate (ownRows rows owners who) (targetP rows) = some w) :
    w.length = colsP rows ∧ (∀ x ∈ w, inQ x = true) ∧ w.getD 0 0 = 1 ∧ ∀ i ∈ ownIdx owners who rows.length, Sig.dot (rows.getD i []) w % 1073741789 = 0 := by
  have hR := ownRows_right hc who
  obtain ⟨h1, h2⟩ := Sig.separate_parts hR.1 h
  have hl := Sig.separate_length h
  rw [targetP_length] at hl
  have hf := Sig.separate_inF h
  have hq : ∀ x ∈ w, inQ x = true := fun x hx => by
    have := hf x hx
    unfold Sig.InF at this
    unfold inQ
    rw [Bool.and_eq_true, decide_eq_true_eq, decide_eq_true_eq]; exact this
  refine ⟨hl, hq, ?_, fun i hi => ?_⟩
  · unfold targetP at h2
    rw [dot_target_l _ (cols_pos hc) w hl] at h2
    have := Sig.getD_inF hf 0
    unfold Sig.InF at this
    omega
  · obtain ⟨k, hk, rfl⟩ := List.getElem_of_mem hi
    have := h1 k (by unfold ownRows; rw [List.length_map]; exact hk)
    unfold ownRows at this
    rw [List.getD_eq_getElem?_getD, List.getElem?_map, List.getElem?_eq_getElem hk] at this
    exact this
theorem pick_moved {rows : List (List Int)} {owners who s w : List Int} {by_ : Int} (hsw : s.length = w.length) (h : ∀ i ∈ ownIdx owners who rows.length, Sig.dot (rows.getD i []) w % 1073741789 = 0) :
    pickS rows (shiftQ by_ s w) (ownIdx owners who rows.length) = pickS rows s (ownIdx owners who rows.length) := by
  unfold pickS
  refine List.map_congr_left fun i hi => ?_
  unfold shareQ
  congr 1
  rw [shiftQ_dot _ _ _ _ hsw, Int.add_emod, ← Sig.mul_emod_r, h i hi, Int.mul_zero]
  simp
end Go.Proofs.Ytdbamhckgaoibaa.P
namespace Go.Proofs.Ytdbamhckgaoibaa.P
open Go.RowKit Go.Proofs.YtdbamhckgaoibaaW.PrintWords Go.Proofs.YtdbamhckgaoibaaW.PrintLast Go.Proofs.YtdbamhckgaoibaaW.PrintMore
attribute [local go_sem] Oper.semAt_some
set_option linter.unusedVariables false
set_option linter.unusedSimpArgs false
theorem drop_cons_get {α : Type} {l m : List α} {a : α} {k : Nat} (h : l.drop k = a :: m) : l[k]? = some a ∧ l.drop (k + 1) = m ∧ k < l.length := by
  have hk : k < l.length := by
    refine Nat.lt_of_not_le fun hle => ?_
    rw [List.drop_of_length_le hle] at h
    cases h
  rw [List.drop_eq_getElem_cons hk] at h
  injection h with h1 h2
  exact ⟨by rw [List.getElem?_eq_getElem hk, h1], h2, hk⟩
theorem drop_nil_len {α : Type} {l : List α} {k : Nat} (h : l.drop k = []) (hk : k ≤ l.length) : k = l.length := by
  have := congrArg List.length h
  rw [List.length_drop, List.length_nil] at this
  omega
end Go.Proofs.Ytdbamhckgaoibaa.P
namespace Go.Proofs.Ytdbamhckgaoibaa.P
open Go.RowKit Go.Proofs.YtdbamhckgaoibaaW.PrintWords Go.Proofs.YtdbamhckgaoibaaW.PrintLast Go.Proofs.YtdbamhckgaoibaaW.PrintMore
attribute [local go_sem] Oper.semAt_some
set_option linter.unusedVariables false
set_option linter.unusedSimpArgs false
theorem cmpNaN_c (x : Int) (w : World) : Calls Try.prog 210 #[.int .i64 x] w fun e w' => e = .returned (.bool false) ∧ w = w' := by
  go_enter Try.func210, Try.ntmps210
  go_wp2
  go_ret
  exact ⟨by simp, rfl⟩
theorem sliNaN_c (x : Int) (w : World) : Calls Try.prog 209 #[.int .i64 x] w fun e w' => e = .returned (.bool false) ∧ w = w' := by
  go_enter Try.func209, Try.ntmps209
  go_wp2
  go_ret
  exact ⟨by simp, rfl⟩
theorem less_c (x y : Int) (w : World) : Calls Try.prog 208 #[.int .i64 x, .int .i64 y] w fun e w' => e = .returned (.bool (decide (x < y))) ∧ w = w' := by
  go_enter Try.func208, Try.ntmps208
  go_wp2_with (go_at_call 210; refine (cmpNaN_c _ _).mono ?_; rintro e w' ⟨rfl, rfl⟩)
  go_ret
  exact ⟨rfl, rfl⟩
set_option maxHeartbeats 4000000 in
set_option maxRecDepth 1000000 in
theorem search_c (A : Option Addr) (c : Nat) (l : List Int) (x : Int) (w : World) (hr : Kd.C (Kd.int .i64) w A l.length l) (hs : l.Pairwise (· ≤ ·)) (hn : l.length ≤ 1000000) :
    Calls Try.prog 204 #[.slice A l.length c, .int .i64 x] w fun e w' => ∃ i : Int, e = .returned (.tuple #[.int .i64 i, .bool (l.contains x)]) ∧ Drawn0 w w' := by
  have S := Aside0.mk (Lib.sorted_at l l.length (Nat.le_refl _) (by rw [List.take_length]; exact hs))
  have HR := Aside0.mk hr
  clear hs hr
  go_enter Try.func204, Try.ntmps204
  go_wp2
  go_loopg [7, 8] l.length (fun gk s7 s8 wr => ∃ lo hi : Nat, s7 = .int .i64 lo ∧ s8 = .int .i64 hi ∧ lo ≤ hi ∧ hi ≤ l.length ∧ hi - lo ≤ gk ∧ Drawn0 w wr ∧ Aside0 ((∀ t, t < lo → l.getD t 0 < x) ∧ (∀ t, hi ≤ t → t < l.length → x ≤ l.getD t 0)))
  case atStart => exact ⟨0, l.length, rfl, rfl, Nat.zero_le _, Nat.le_refl _, by omega, Drawn0.refl _, ⟨fun t ht => absurd ht (Nat.not_lt_zero _), fun t h1 h2 => by omega⟩⟩
  case round =>
    obtain ⟨lo, hi, rfl, rfl, hlh, hin, hg, ⟨nq, rfl⟩, I⟩ := hrel
    by_cases hlt : lo < hi
    · obtain ⟨mid, hmid⟩ : ∃ mid, mid = (lo + hi) / 2 := ⟨_, rfl⟩
      obtain ⟨ad, e, cm⟩ := Kd.at_int HR.out (mid : Int) (by omega) (by omega)
      subst e
      rw [rd_nat, Int.toNat_natCast] at cm
      have em : ((lo : Int) + (hi : Int)) / 2 = (mid : Int) := by omega
      generalize hy : l.getD mid 0 = y at cm
      have Y := Aside0.mk hy
      have HM := Aside0.mk hmid
      have hm1 : lo ≤ mid := by omega
      have hm2 : mid < hi := by omega
      clear hy hmid
      by_cases hyx : y < x
      · go_wp2_with (go_at_call 208; refine (less_c _ _ _).mono ?_; rintro e w' ⟨rfl, rfl⟩)
        go_roundg (hi - (mid + 1))
        case measure => omega
        case rel =>
          refine ⟨mid + 1, hi, by first | rfl | rw [show ((mid : Int) + 1) = ((mid + 1 : Nat) : Int) by omega], rfl, by omega, hin, Nat.le_refl _, by repeat (first | exact Drawn0.refl _ | apply Drawn0.step), ⟨fun t ht => ?_, I.out.2⟩⟩
          have := S.out t mid (by omega) (by omega)
          rw [Y.out] at this
          omega
      · go_wp2_with (go_at_call 208; refine (less_c _ _ _).mono ?_; rintro e w' ⟨rfl, rfl⟩)
        go_roundg (mid - lo)
        case measure => omega
        case rel =>
          refine ⟨lo, mid, rfl, rfl, by omega, by omega, Nat.le_refl _, by repeat (first | exact Drawn0.refl _ | apply Drawn0.step), ⟨I.out.1, fun t ht htn => ?_⟩⟩
          have := S.out mid t ht htn
          rw [Y.out] at this
          omega
    · have : hi = lo := by omega
      subst this
      obtain ⟨_, e2⟩ := Lib.search_end l l.length hi x (Nat.le_refl _) hin I.out.1 I.out.2 S.out
      rw [List.take_length] at e2
      have E := Aside0.mk e2
      clear e2
      by_cases hn : hi < l.length
      · obtain ⟨ad, e, cm⟩ := Kd.at_int HR.out (hi : Int) (by omega) (by omega)
        subst e
        rw [rd_nat, Int.toNat_natCast] at cm
        generalize hy : l.getD hi 0 = y at cm
        have Y := Aside0.mk hy
        clear hy
        by_cases hyx : y = x
        · have hb : (y == x) = true := beq_iff_eq.mpr hyx
          go_wp2_with (go_at_call 209; refine (sliNaN_c _ _).mono ?_; rintro e w' ⟨rfl, rfl⟩)
          go_ret2
          refine ⟨(hi : Int), ?_, by repeat (first | exact Drawn0.refl _ | apply Drawn0.step)⟩
          rw [E.out, Y.out, decide_eq_true (show hi < l.length ∧ y = x from ⟨hn, hyx⟩)]
          first | rfl | simp [*]
        · have hb : (y == x) = false := beq_eq_false_iff_ne.mpr hyx
          go_wp2_with (go_at_call 209; refine (sliNaN_c _ _).mono ?_; rintro e w' ⟨rfl, rfl⟩)
          go_ret2
          refine ⟨(hi : Int), ?_, by repeat (first | exact Drawn0.refl _ | apply Drawn0.step)⟩
          rw [E.out, Y.out, decide_eq_false (show ¬ (hi < l.length ∧ y = x) from fun h => hyx h.2)]
          first | rfl | simp [*]
      · go_wp2_with (go_at_call 209; refine (sliNaN_c _ _).mono ?_; rintro e w' ⟨rfl, rfl⟩)
        go_ret2
        refine ⟨(hi : Int), ?_, by repeat (first | exact Drawn0.refl _ | apply Drawn0.step)⟩
        rw [E.out, decide_eq_false (show ¬ (hi < l.length ∧ l.getD hi 0 = x) from fun h => hn h.1)]
        first | rfl | simp [*]
def IterC2 (g : Nat) (lb : Array Value) (Keep : World → Prop) (yv : List (Value × Value)) : Prop :=
  ∀ (l : Nat) (W1 : World) (J : Nat → World → Prop), (∀ k W, J k W → Keep W) → (∀ k W W', J k W → Below W.heap.size W W' → J k W') →
    (∀ k W v, yv[k]? = some v → J k W → YieldAt Fence.wide 7 Try.prog l #[v.1, v.2] W fun e W' => e = .returned (.bool true) ∧ J (k + 1) W') → J 0 W1 →
    CallsIn Fence.wide 8 Try.prog g (#[.func (.yield l) #[] #[]] ++ lb) W1 fun e W' => (∃ v, e = .returned v) ∧ J yv.length W'
def restIdx (owners who : List Int) (k d : Nat) : List Nat := (List.range' k d).filter fun i => who.contains (owners.getD i 0)
theorem restIdx_own (owners who : List Int) (n : Nat) : ownIdx owners who n = restIdx owners who 0 n := by unfold ownIdx restIdx; rw [List.range_eq_range']
theorem restIdx_step (owners who : List Int) (k d : Nat) : restIdx owners who k (d + 1) = if who.contains (owners.getD k 0) = true then k :: restIdx owners who (k + 1) d else restIdx owners who (k + 1) d := by
  unfold restIdx
  rw [List.range'_succ, List.filter_cons]
theorem own_c (A0 A1 As : Option Addr) (n0 c0 n1 c1 ns cs : Nat) (w : World) : Calls Try.prog 181 #[.agg #[.slice A0 n0 c0, .slice A1 n1 c1], .slice As ns cs] w fun e w' =>
    e = .returned (.func (.func 203) #[] #[.pointer (some ⟨w.heap.size, 0, none⟩), .pointer (some ⟨w.heap.size + 1, 0, none⟩)]) ∧ w' = (w.alloc (.cells #[.slice A0 n0 c0, .slice A1 n1 c1] 25)).alloc (.cells #[.slice As ns cs] 23) := by
  have hmf : ∀ (fn : Fn) (first cap : Array Value) (w : World), (Instr.makeFunc fn first cap).run Try.prog w = .ok (.func fn first cap) w := fun _ _ _ _ => rfl
  go_enter Try.func181, Try.ntmps181
  go_wp2
  go_ret
  exact ⟨by first | rfl | (simp; done) | (simp; rfl), rfl⟩
set_option maxRecDepth 100000 in
set_option maxHeartbeats 4000000 in
theorem own1_it (Keep : World → Prop) (bp bw : Nat) (Aw : Option Addr) (cw : Nat) (who : List Int) (Ap : Option Addr) (adr : Addr) (cp : Nat) (rows : List (List Int)) (Ao : Option Addr) (co : Nat) (owners : List Int) (yrow : Nat → Value)
    (hK : ∀ W, Keep W → W.cell? ⟨bp, 0, none⟩ = some (.slice Ap rows.length cp) ∧ W.cell? ⟨bp, 1, none⟩ = some (.slice Ao owners.length co) ∧ W.cell? ⟨bw, 0, none⟩ = some (.slice Aw who.length cw) ∧ Kd.C (Kd.int .i64) W Aw who.length who ∧ Kd.C (Kd.int .i64) W Ao owners.length owners ∧
      ∀ i, i < rows.length → ∃ A c, yrow i = .slice A (rows.getD i []).length c ∧ W.cell? (adr.add i) = some (yrow i))
    (hadr : 0 < rows.length → Ap = some adr) (hlo : rows.length = owners.length) (hs : who.Pairwise (· ≤ ·)) (hn : who.length ≤ 1000000) (hn2 : rows.length ≤ 1000000) :
    IterC2 203 #[.pointer (some ⟨bp, 0, none⟩), .pointer (some ⟨bw, 0, none⟩)] Keep ((ownIdx owners who rows.length).map fun (i : Nat) => (.int .i64 (i : Int), yrow i)) := by
  intro l W1 J hJB hJS hY hj0
  have HS := Aside0.mk hs
  have HJS := Aside0.mk hJS
  have HJK := Aside0.mk (fun k W h => hK W (hJB k W h))
  have HAD := Aside0.mk hadr
  have HLO := Aside0.mk hlo
  have e1 := (hK W1 (hJB 0 W1 hj0)).1
  rw [List.length_map]
  generalize hacc : ownIdx owners who rows.length = acc at hY ⊢
  have HACC := Aside0.mk (hacc.symm.trans (restIdx_own owners who rows.length))
  have HAL := Aside0.mk (show acc.length ≤ rows.length by rw [← hacc]; exact ownIdx_le _ _ _)
  have HY := Aside0.mk hY
  clear hJS hJB hadr hacc hY hs hlo hK
  refine callsIn_of_wp Try.func203 rfl trivial ?_ rfl
  simp only [Try.ntmps203, List.size_toArray, List.length_cons, List.length_nil, Nat.reduceAdd, Nat.reduceSub, Array.replicate_succ, Array.replicate_zero, List.push_toArray, List.append_toArray, List.nil_append, List.cons_append]
  gi_wp2
  clear e1
  gi_loopg [11] rows.length (fun gk v11 wr => ∃ (k j : Nat), k ≤ rows.length ∧ gk = rows.length - k ∧ v11 = .int .i64 (k : Int) ∧ Aside0 (j ≤ acc.length ∧ acc.drop j = restIdx owners who k (rows.length - k) ∧ J j wr))
  case atStart => exact ⟨0, 0, Nat.zero_le _, rfl, rfl, ⟨Nat.zero_le _, by rw [List.drop_zero]; exact HACC.out, hj0⟩⟩
  case round =>
    clear hj0
    obtain ⟨k, j, hk, rfl, rfl, HX⟩ := hrel
    by_cases hlt : k < rows.length
    · have c1 : decide ((k : Int) < (rows.length : Int)) = true := decide_eq_true (by omega)
      have c2 : decide (k < rows.length) = true := decide_eq_true hlt
      have c3 : (0 : Int) ≤ (k : Int) := by omega
      have c4 : (k : Int) < (rows.length : Int) := by omega
      have c5 : (k : Int) < (owners.length : Int) := by have := HLO.out; omega
      have c6 : decide (k < owners.length) = true := decide_eq_true (by have := HLO.out; omega)
      have hAp := HAD.out (by omega)
      subst hAp
      obtain ⟨z2, z4, z3, _, ho, hr⟩ := HJK.out j wr HX.out.2.2
      obtain ⟨Ar, cr, y0, y1⟩ := hr k hlt
      obtain ⟨ado, eo, x1⟩ := Kd.at_int ho (k : Int) (by omega) (by omega)
      subst eo
      rw [rd_nat, Int.toNat_natCast] at x1
      rw [y0] at y1
      have hst := HX.out.2.1
      rw [show rows.length - k = (rows.length - (k + 1)) + 1 by omega, restIdx_step] at hst
      have HJ := Aside0.mk HX.out.2.2
      have HJL := Aside0.mk HX.out.1
      clear HX ho hr z2
      generalize owners.getD k 0 = ow at x1 hst
      have hsc := fun (W : World) (hb : Below wr.heap.size wr W) => search_c Aw cw who ow W (HJK.out _ _ (HJS.out _ _ _ HJ.out hb)).2.2.2.1 HS.out hn
      obtain ⟨met, hmet⟩ : ∃ b, b = who.contains ow := ⟨_, rfl⟩
      simp only [← hmet] at hsc hst
      have HSC := Aside0.mk hsc
      clear hmet hsc
      cases met with
      | false =>
        have HST := Aside0.mk hst
        clear hst y0
        generalize (rows.getD k []).length = rn at y1
        gi_wp2
        refine region_only (fun K' hK' => ?_)
        go_region_held3 (fun w' => w'.cell? ⟨bw, 0, none⟩ = some (.slice Aw who.length cw) ∧ w'.cell? ⟨bp, 1, none⟩ = some (.slice (some ado) owners.length co) ∧ w'.cell? (ado.add k) = some (.int .i64 ow)) (go_keep)
          ((go_at_call 204; refine (HSC.out _ (by first | exact (Below.refl _ wr).drew | exact pw_below_drewN ((Below.refl _ wr).drew) _)).mono ?_; rintro e w2 ⟨iv, rfl, hd2⟩; obtain ⟨nd, rfl⟩ := hd2))
        show K' _ _
        refine hK' _ _ ?_
        clear hK' y1 x1 z4 z3
        gi_wp2
        refine ⟨(fun _ h => by cases h), ?_⟩
        go_at_K
        gi_wp2
        gi_roundg (rows.length - (k + 1))
        case measure => omega
        case rel =>
          exact ⟨k + 1, j, by omega, rfl, by first | rfl | rw [wrap_nextB (by omega)], ⟨HJL.out, by have h_ := HST.out; simpa using h_, HJS.out _ _ _ HJ.out (pw_below_drewN (Below.refl _ wr) _)⟩⟩
      | true =>
        rw [if_pos rfl] at hst
        obtain ⟨a1, a2, a3⟩ := drop_cons_get hst
        have hv : (acc.map fun (i : Nat) => (Value.int .i64 (i : Int), yrow i))[j]? = some (.int .i64 (k : Int), .slice Ar (rows.getD k []).length cr) := by
          rw [List.getElem?_map, a1]; simp [y0]
        have hyk := HY.out j
        generalize (acc.map fun (i : Nat) => (Value.int .i64 (i : Int), yrow i))[j]? = ov at hv hyk
        have HYK := Aside0.mk (fun W h => hyk W _ hv h)
        have HST := Aside0.mk a2
        have HA3 := Aside0.mk a3
        clear hst a1 a2 a3 hv hyk y0
        generalize (rows.getD k []).length = rn at y1 HYK
        gi_wp2
        refine region_only (fun K' hK' => ?_)
        go_region_held3 (fun w' => w'.cell? ⟨bw, 0, none⟩ = some (.slice Aw who.length cw) ∧ w'.cell? ⟨bp, 1, none⟩ = some (.slice (some ado) owners.length co) ∧ w'.cell? (ado.add k) = some (.int .i64 ow)) (go_keep)
          ((go_at_call 204; refine (HSC.out _ (by first | exact (Below.refl _ wr).drew | exact pw_below_drewN ((Below.refl _ wr).drew) _)).mono ?_; rintro e w2 ⟨iv, rfl, hd2⟩; obtain ⟨nd, rfl⟩ := hd2))
        show K' _ _
        refine hK' _ _ ?_
        clear hK' y1 x1 z4 z3
        have hj2 := HJS.out _ _ _ HJ.out (pw_below_drewN (Below.refl _ wr) (1 + nd))
        obtain ⟨fn, tmps, assign, body, hy, hR⟩ := HYK.out _ hj2
        clear hj2
        gi_wp2
        refine hR.mono ?_
        rintro e W' ⟨rfl, hj2⟩
        have HJ2 := Aside0.mk hj2
        clear hj2
        gi_wp2
        gi_roundg (rows.length - (k + 1))
        case measure => omega
        case rel =>
          exact ⟨k + 1, j + 1, by omega, rfl, by first | rfl | rw [wrap_nextB (by omega)], ⟨HA3.out, HST.out, HJ2.out⟩⟩
    · have hki : k = rows.length := by omega
      have hend : j = acc.length := by
        have h_ := HX.out.2.1
        rw [show rows.length - k = 0 by omega] at h_
        exact drop_nil_len h_ HX.out.1
      have c1 : decide ((k : Int) < (rows.length : Int)) = false := decide_eq_false (by omega)
      have HE := Aside0.mk hend
      have HJ := Aside0.mk HX.out.2.2
      clear hend hki HX
      gi_wp2
      go_end0
      exact ⟨⟨_, rfl⟩, by rw [← HE.out]; exact HJ.out⟩
end Go.Proofs.Ytdbamhckgaoibaa.P
namespace Go.Proofs.Ytdbamhckgaoibaa.P
open Go.RowKit Go.Proofs.YtdbamhckgaoibaaW.PrintWords Go.Proofs.YtdbamhckgaoibaaW.PrintLast Go.Proofs.YtdbamhckgaoibaaW.PrintMore
set_option linter.unusedVariables false
set_option linter.unusedSimpArgs false
theorem own_empty (w : World) (t : TypeId) : (w.alloc (.cells #[] t)).ownsRow w.heap.size t 1 (.slice (some ⟨w.heap.size, 0, none⟩) 0 0) ([] : List Int).length (nums .i64 []) := World.ownsRow_made w #[] 0 (Nat.le_refl _) (Nat.zero_le _) rfl
set_option maxHeartbeats 1000000 in
theorem clone_c (A : Option Addr) (c : Nat) (x : List Int) (w : World) (hx : Kd.C (Kd.int .i64) w A x.length x) (h0 : 0 < x.length) (hn : x.length ≤ 1000000) :
    Calls Try.prog 184 #[.slice A x.length c] w fun e w' => ∃ b cap, e = .returned (.slice (some ⟨b, 0, none⟩) x.length cap) ∧ x.length ≤ cap ∧ w.heap.size ≤ b ∧ b < w'.heap.size ∧ RowAt w' b x ∧ Below w.heap.size w w' := by
  obtain ⟨ad, e, _⟩ := Kd.at_int hx 0 (Int.le_refl _) (by omega)
  cases e
  have q : ∀ (w : World) (a : Option Addr) (n c n' c' : Nat), (binOp .eql 23 (.slice a n c) (.slice none n' c')).run Try.prog w = .ok (.bool a.isNone) w := fun w a n c n' c' => Lib.run_eql_slice_nil w 23 3 a n c n' c' (by kernel_rfl)
  have HX := Aside0.mk hx
  have HN := Aside0.mk (And.intro h0 hn)
  clear hx
  go_enter Try.func184, Try.ntmps184
  go_wp2_with (at_builtin; refine print_append_row (w0 := w) w.heap.size rfl _ _ 23 3 .i64 8 rfl (by kernel_rfl) (by kernel_rfl) (by decide) _ [] x (some ad) x.length c rfl rfl (own_empty w 3) (ReadsInt_of_C (Kd.C_below HX.out ((Below.refl _ w).alloc (Nat.le_refl _) _))) ((Below.refl _ w).alloc (Nat.le_refl _) _) (by simp) (by have := HN.out.2; simp; omega) ?_; intro v1 w2 h1 hB1 hg hat; have H1 := Aside0.mk h1; have HB := Aside0.mk hB1; clear h1 hB1 hg hat)
  have hr : Kd.R (Kd.int .i64) 3 w2 w.heap.size (fun _ => True) v1 x := R_of_owns H1.out (fun _ _ => trivial)
  obtain ⟨b, cap, rfl, g1, g2, g3, g4, g5⟩ := row_of hr HN.out.1
  have HG := Aside0.mk (And.intro g1 (And.intro g3 (And.intro g4 g5)))
  clear hr g1 g2 g3 g4 g5 q
  go_wp2
  go_ret
  exact ⟨b, cap, rfl, HG.out.1, HG.out.2.1, HG.out.2.2.1, HG.out.2.2.2, HB.out⟩
def IdxFound (l : List Int) (x : Int) (w : World) (e : Ending) (w' : World) : Prop := ∃ i : Int, e = .returned (.int .i64 i) ∧ decide (i ≥ 0) = l.contains x ∧ w = w'
theorem contains_stop {l : List Int} {x : Int} {j : Nat} (hj : j < l.length) (h : l[j] = x) : l.contains x = true := by
  rw [List.contains_iff_mem, ← h]; exact List.getElem_mem hj
theorem contains_next {l : List Int} {x : Int} {j : Nat} (hj : j < l.length) (h0 : (l.take j).contains x = false) (h : l[j] ≠ x) : (l.take (j + 1)).contains x = false := by
  rw [Bool.eq_false_iff] at h0 ⊢
  intro h1
  rw [List.contains_iff_mem, List.take_succ_eq_append_getElem hj, List.mem_append, List.mem_singleton] at h1
  rcases h1 with h1 | h1
  · exact h0 (List.contains_iff_mem.2 h1)
  · exact h h1.symm
set_option maxHeartbeats 1000000 in
theorem index_c (A : Option Addr) (c : Nat) (l : List Int) (x : Int) (w : World) (hr : Kd.C (Kd.int .i64) w A l.length l) : Calls Try.prog 187 #[.slice A l.length c, .int .i64 x] w (IdxFound l x w) := by
  have HR := Aside0.mk hr
  have hlen : l.length ≤ 9223372036854775807 := hr.2.1
  clear hr
  go_enter Try.func187, Try.ntmps187
  go_wp2
  go_loopg [8] l.length (fun gk v8 w' => ∃ j : Nat, j + gk = l.length ∧ v8 = .int .i64 (j : Int) ∧ Aside0 ((l.take j).contains x = false) ∧ w = w')
  case atStart => exact ⟨0, by omega, rfl, ⟨by simp⟩, rfl⟩
  case round =>
    obtain ⟨j, hj, rfl, HA, hwe⟩ := hrel
    subst hwe
    by_cases hlt : j < l.length
    · have c1 : decide ((j : Int) < (l.length : Int)) = true := decide_eq_true (by omega)
      have c2 : decide (j < l.length) = true := decide_eq_true hlt
      obtain ⟨ad, e, hx⟩ := Kd.at_int HR.out (j : Int) (by omega) (by omega)
      cases e
      rw [rd_nat, Int.toNat_natCast] at hx
      have hrd : l.getD j 0 = l[j] := by rw [List.getD_eq_getElem?_getD, List.getElem?_eq_getElem hlt]; rfl
      rw [hrd] at hx
      have c3 : (0 : Int) ≤ (j : Int) := by omega
      generalize hy : l[j] = y at hx
      have HY := Aside0.mk hy
      clear hy hrd
      by_cases hxy : x = y
      · have e1 : (x == y) = true := beq_iff_eq.mpr hxy
        have HF := Aside0.mk (contains_stop hlt (HY.out.trans hxy.symm))
        clear hxy
        go_wp2
        go_ret
        exact ⟨(j : Int), rfl, by rw [HF.out]; exact decide_eq_true (by omega), rfl⟩
      · have e1 : (x == y) = false := beq_eq_false_iff_ne.mpr hxy
        have HF := Aside0.mk (contains_next hlt HA.out (fun h => hxy (h.symm.trans HY.out)))
        clear hxy
        go_wp2
        go_roundg (gk - 1)
        case measure => omega
        case rel => exact ⟨j + 1, by omega, by go_num, HF, rfl⟩
    · have c1 : decide ((j : Int) < (l.length : Int)) = false := decide_eq_false (by omega)
      have HF : Aside0 (l.contains x = false) := ⟨by have h := HA.out; rw [List.take_of_length_le (by omega)] at h; exact h⟩
      go_wp2
      go_ret
      exact ⟨-1, rfl, by rw [HF.out]; rfl, rfl⟩
theorem contains_c (A : Option Addr) (c : Nat) (l : List Int) (x : Int) (w : World) (hr : Kd.C (Kd.int .i64) w A l.length l) : Calls Try.prog 121 #[.slice A l.length c, .int .i64 x] w fun e w' => e = .returned (.bool (l.contains x)) ∧ w = w' := by
  have HI := Aside0.mk (index_c A c l x w hr)
  clear hr
  go_enter Try.func121, Try.ntmps121
  go_wp2_with fail
  refine HI.out.mono ?_
  rintro e w' ⟨i, rfl, h1, rfl⟩
  have H1 := Aside0.mk h1
  clear h1 HI
  go_wp2
  go_ret
  exact ⟨by rw [← H1.out]; rfl, rfl⟩
theorem take_row {t : List (List Int)} {i k : Nat} (h : i < k) : (t.take k).getD i [] = t.getD i [] := by
  rw [List.getD_eq_getElem?_getD, List.getElem?_take_of_lt h, ← List.getD_eq_getElem?_getD]
structure CopyI (w : World) (base g : Nat) (rows : List (List Int)) (bs : List Nat) (j : Nat) (W : World) : Prop where
  len : bs.length = rows.length
  tab : Tab W base g bs (rows.take j)
  cells : ∀ i, i < rows.length → (∃ v, W.cell? ⟨g, i, none⟩ = some v) ∧ W.frozen? ⟨g, i, none⟩ = false
  below : Below base w W
  glt : g < W.heap.size
  blt : ∀ i, i < j → bs.getD i 0 < W.heap.size
theorem CopyI.move {w : World} {base g : Nat} {rows : List (List Int)} {bs : List Nat} {j : Nat} {W W' : World} (h : CopyI w base g rows bs j W) (hb : Below W.heap.size W W') (hbase : base ≤ W.heap.size) : CopyI w base g rows bs j W' :=
  ⟨h.len, h.tab.below hb, fun i hi => by
    obtain ⟨⟨v, h1⟩, h2⟩ := h.cells i hi
    exact ⟨⟨v, (hb.cell (p := ⟨g, i, none⟩) h.glt).trans h1⟩, (hb.frozen (p := ⟨g, i, none⟩) h.glt).trans h2⟩, h.below.trans (hb.mono hbase), Nat.lt_of_lt_of_le h.glt hb.size, fun i hi => Nat.lt_of_lt_of_le (h.blt i hi) hb.size⟩
theorem CopyI.push {w : World} {base g : Nat} {rows : List (List Int)} {bs : List Nat} {j : Nat} {W : World} (h : CopyI w base g rows bs j W) (hj : j < rows.length) {b cap : Nat} (hbg : b ≠ g) (hbb : base ≤ b) (hbl : b < W.heap.size) (hd : ∀ i, i < j → bs.getD i 0 ≠ b) (hr : RowAt W b (rows.getD j [])) (hc : (rows.getD j []).length ≤ cap) (hgb : base ≤ g) :
    CopyI w base g rows (bs.set j b) (j + 1) (W.setCell ⟨g, j, none⟩ (.slice (some ⟨b, 0, none⟩) (rows.getD j []).length cap)) := by
  have eb : ∀ i, (bs.set j b).getD i 0 = if j = i then b else bs.getD i 0 := fun i => by
    rw [getD_set_nat]
    by_cases e : j = i
    · rw [if_pos ⟨e, by rw [h.len]; exact hj⟩, if_pos e]
    · rw [if_neg (fun h' => e h'.1), if_neg e]
  have tl : ∀ k, k ≤ rows.length → (rows.take k).length = k := fun k hk => by rw [List.length_take]; omega
  have l1 := tl (j + 1) hj
  have l0 := tl j (by omega)
  have far : ∀ b' k v, b' ≠ g → W.cell? ⟨b', k, none⟩ = some v → (W.setCell ⟨g, j, none⟩ (.slice (some ⟨b, 0, none⟩) (rows.getD j []).length cap)).cell? ⟨b', k, none⟩ = some v ∧ (W.setCell ⟨g, j, none⟩ (.slice (some ⟨b, 0, none⟩) (rows.getD j []).length cap)).frozen? ⟨b', k, none⟩ = W.frozen? ⟨b', k, none⟩ := fun b' k v hne hv =>
    ⟨(World.cell?_setCell_far W ⟨g, j, none⟩ ⟨b', k, none⟩ _ (fun e => hne e.symm)).trans hv, by rw [World.frozen?_setCell]⟩
  obtain ⟨⟨v0, c1⟩, c2⟩ := h.cells j hj
  refine ⟨by rw [List.length_set]; exact h.len, ⟨h.tab.geg, fun i hi => ?_, fun i hi => ?_, fun i k hi hk => ?_, fun i hi => ?_, fun i hi => ?_⟩, fun i hi => ?_, h.below.setCell hgb _, by rw [World.size_setCell]; exact h.glt, fun i hi => ?_⟩
  · rw [l1] at hi
    rw [eb]; split
    · exact hbb
    · exact h.tab.ge i (by omega)
  · rw [l1] at hi
    rw [eb]; split
    · exact hbg
    · exact h.tab.ne i (by omega)
  · rw [l1] at hi hk
    rw [eb, eb]
    intro e
    by_cases e1 : j = i <;> by_cases e2 : j = k
    · omega
    · rw [if_pos e1, if_neg e2] at e; exact absurd e.symm (hd k (by omega))
    · rw [if_neg e1, if_pos e2] at e; exact absurd e (hd i (by omega))
    · rw [if_neg e1, if_neg e2] at e; exact h.tab.inj i k (by omega) (by omega) e
  · rw [l1] at hi
    rw [eb, take_row hi]
    by_cases e : j = i
    · subst e
      rw [if_pos rfl]
      exact ⟨⟨cap, hc, World.cell?_setCell_same' _ _ _ (by rw [c1]; rfl)⟩, by rw [World.frozen?_setCell]; exact c2⟩
    · rw [if_neg e]
      obtain ⟨⟨c, h1, h2⟩, h3⟩ := h.tab.main i (by omega)
      rw [take_row (by omega)] at h1 h2
      exact ⟨⟨c, h1, (World.cell?_setCell_other W ⟨g, j, none⟩ ⟨g, i, none⟩ _ (by intro e3; injection e3 with _ e3; exact e e3)).trans h2⟩, by rw [World.frozen?_setCell]; exact h3⟩
  · rw [l1] at hi
    rw [eb, take_row hi]
    by_cases e : j = i
    · subst e
      rw [if_pos rfl]
      exact hr.move fun k v hv => far b k v hbg hv
    · rw [if_neg e]
      have := h.tab.rows i (by omega)
      rw [take_row (by omega)] at this
      exact this.move fun k v hv => far _ k v (h.tab.ne i (by omega)) hv
  · obtain ⟨⟨v, h1⟩, h2⟩ := h.cells i hi
    refine ⟨?_, by rw [World.frozen?_setCell]; exact h2⟩
    by_cases e : j = i
    · subst e
      exact ⟨_, World.cell?_setCell_same' _ _ _ (by rw [c1]; rfl)⟩
    · exact ⟨v, (World.cell?_setCell_other W ⟨g, j, none⟩ ⟨g, i, none⟩ _ (by intro e3; injection e3 with _ e3; exact e e3)).trans h1⟩
  · rw [World.size_setCell, eb]; split
    · exact hbl
    · exact h.blt i (by omega)
def CopyPost (rows : List (List Int)) (w : World) (e : Ending) (w' : World) : Prop := ∃ g bs, e = .returned (.slice (some ⟨g, 0, none⟩) rows.length rows.length) ∧ bs.length = rows.length ∧ Tab w' w.heap.size g bs rows ∧ g < w'.heap.size ∧ (∀ j, j < rows.length → bs.getD j 0 < w'.heap.size) ∧ Below w.heap.size w w'
set_option maxHeartbeats 2000000 in
theorem copyOf_c (A0 : Option Addr) (c0 : Nat) (rows : List (List Int)) (w : World) (hr : Kd.C (Kd.slice 3 (Kd.int .i64)) w A0 rows.length rows) (hn : rows.length ≤ 1000000) (hp : ∀ row ∈ rows, 0 < row.length ∧ row.length ≤ 1000000) :
    Calls Try.prog 119 #[.slice A0 rows.length c0] w (CopyPost rows w) := by
  have HR := Aside0.mk hr
  have HP := Aside0.mk hp
  clear hr hp
  have hmk := print_make_of (P := Try.prog) 134 23 (.slice none 0 0) 24 (by kernel_rfl) (by kernel_rfl) rfl (by decide) rows.length (by omega)
  go_enter Try.func119, Try.ntmps119
  go_wp2
  clear hmk
  obtain ⟨W0, hW0⟩ : ∃ W0, w.alloc (.cells (madeCells #[.slice none 0 0] rows.length) 23) = W0 := ⟨_, rfl⟩
  rw [hW0]
  have hb0 : Below w.heap.size w W0 := by rw [← hW0]; exact below_alloc1 _ _
  have hI : CopyI w w.heap.size w.heap.size rows (List.replicate rows.length 0) 0 W0 := by
    refine ⟨by simp, ⟨Nat.le_refl _, fun i hi => absurd hi (by simp), fun i hi => absurd hi (by simp), fun i k hi => absurd hi (by simp), fun i hi => absurd hi (by simp), fun i hi => absurd hi (by simp)⟩, fun i hi => ⟨⟨.slice none 0 0, ?_⟩, ?_⟩, hb0, by rw [← hW0]; simp, fun i hi => absurd hi (by omega)⟩
    · rw [← hW0]
      simp only [World.cell?]
      rw [World.alloc_heap_new]
      simp [madeCells, hi, Nat.mod_one]
    · rw [← hW0]
      exact World.frozen?_alloc_at _ _ _ _ rfl
  have HI := Aside0.mk hI
  clear hI hb0 hW0
  go_loopg [11] rows.length (fun gk v11 wr => ∃ (j : Nat) (bs : List Nat), j ≤ rows.length ∧ gk = rows.length - j ∧ v11 = .int .i64 (j : Int) ∧ Aside0 (CopyI w w.heap.size w.heap.size rows bs j wr))
  case atStart => exact ⟨0, _, Nat.zero_le _, rfl, rfl, HI⟩
  case round =>
    clear HI
    obtain ⟨j, bs, hj, rfl, rfl, HI⟩ := hrel
    by_cases hlt : j < rows.length
    · have c1 : decide ((j : Int) < (rows.length : Int)) = true := decide_eq_true (by omega)
      have c2 : decide (j < rows.length) = true := decide_eq_true hlt
      have c3 : (0 : Int) ≤ (j : Int) := by omega
      have c4 : (j : Int) < (rows.length : Int) := by omega
      obtain ⟨ad, Ar, cr, e, x1, x2, x3⟩ := at_L1 HR.out (j : Int) (by omega) (by omega)
      cases e
      rw [rd_L1_nat] at x1 x2 x3
      rw [Int.toNat_natCast] at x1
      have hbl := HI.out.below
      replace x1 := (hbl.cell (World.block_lt_of_cell? w _ x1)).trans x1
      replace x3 := Kd.C_below x3 hbl
      have hpp := HP.out _ (Sig.getD_mem hlt)
      have HC := Aside0.mk (clone_c Ar cr (rows.getD j []) wr x3 hpp.1 hpp.2)
      obtain ⟨row, hrow⟩ : ∃ row, row = rows.getD j [] := ⟨_, rfl⟩
      rw [← hrow] at x1 HC
      have HRW := Aside0.mk hrow
      clear x2 x3 hpp hbl hrow
      obtain ⟨n, hnn⟩ : ∃ n, n = row.length := ⟨_, rfl⟩
      rw [← hnn] at x1 HC
      have HNN := Aside0.mk hnn
      clear hnn
      go_wp2_with fail
      refine HC.out.mono ?_
      rintro e w2 ⟨b, cap, rfl, g1, g2, g3, g4, g5⟩
      have hI2 := HI.out.move g5 HI.out.below.size
      have hgw := HI.out.glt
      obtain ⟨⟨v0, z1⟩, z2⟩ := hI2.cells j hlt
      have hpush := hI2.push (b := b) (cap := cap) hlt (by omega) (by have := HI.out.below.size; omega) g3 (fun i hi => by have := HI.out.blt i hi; omega) (by rw [← HRW.out]; exact g4) (by rw [← HRW.out, ← HNN.out]; exact g1) (Nat.le_refl _)
      rw [← HRW.out, ← HNN.out] at hpush
      have HPU := Aside0.mk hpush
      clear hpush hI2 g1 g2 g3 g4 g5 HC x1 hgw
      go_wp2
      go_roundg (rows.length - (j + 1))
      case measure => omega
      case rel => exact ⟨j + 1, _, by omega, rfl, by first | rfl | rw [wrap_succ (by omega)], HPU⟩
    · obtain rfl : j = rows.length := by omega
      have c1 : decide ((rows.length : Int) < (rows.length : Int)) = false := decide_eq_false (by omega)
      go_wp2
      go_ret
      have ht := HI.out.tab
      rw [List.take_length] at ht
      exact ⟨_, bs, rfl, HI.out.len, ht, HI.out.glt, HI.out.blt, HI.out.below⟩
end Go.Proofs.Ytdbamhckgaoibaa.P
namespace Go.Proofs.Ytdbamhckgaoibaa.P
open Go.RowKit Go.Proofs.YtdbamhckgaoibaaW.PrintWords Go.Proofs.YtdbamhckgaoibaaW.PrintLast Go.Proofs.YtdbamhckgaoibaaW.PrintMore
set_option linter.unusedVariables false
theorem three_first (w : World) (v0 v1 : Value) (o1 o2 : Obj) (t : TypeId) (v : Value) (h : v = v0) : (((w.alloc (.cells #[v0, v1] t)).alloc o1).alloc o2).cell? ⟨w.heap.size, 0, none⟩ = some v := by
  have h1 : (w.alloc (.cells #[v0, v1] t)).cell? ⟨w.heap.size, 0, none⟩ = some v := by simp only [World.cell?]; rw [World.alloc_heap_new, h]; rfl
  have h2 : Below (w.alloc (.cells #[v0, v1] t)).heap.size (w.alloc (.cells #[v0, v1] t)) (((w.alloc (.cells #[v0, v1] t)).alloc o1).alloc o2) := (below_alloc1 _ _).alloc (by simp) _
  exact (h2.cell (p := ⟨w.heap.size, 0, none⟩) (by simp)).trans h1
end Go.Proofs.Ytdbamhckgaoibaa.P
