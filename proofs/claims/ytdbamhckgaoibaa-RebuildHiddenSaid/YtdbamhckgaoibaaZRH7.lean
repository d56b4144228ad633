/- A part of the proof of RebuildHidden: RebuildHidden: what the law reckons, in plain words.; The contracts of chapter 34's functions, for slices that are only read.; The sanity examples of chapter 40, reckoned.; The sanity function of chapter 40 returns true. -/
import Derived.Test.YtdbamhckgaoibaaZRH6
namespace Go.Proofs.Ytdbamhckgaoibaa.P
open Go.RowKit Go.Proofs.YtdbamhckgaoibaaW.PrintWords Go.Proofs.YtdbamhckgaoibaaW.PrintLast Go.Proofs.YtdbamhckgaoibaaW.PrintMore
def rowsFrom (n : Nat) (row : Int) : Int → List Int → Bool
  | _, [] => decide (0 ≤ row) && decide (row < n)
  | last, r :: l => if last < r ∧ r < n ∧ r ≠ row then rowsFrom n row r l else false
theorem rows40_l0 (rows : List (List Int)) (owners : List Int) (row : Int) (idx : List Int) (hn : rows.length ≤ 64) (k : Nat) : ∀ (m j : Nat) (last : Int), (rows.length : Int) - 1 - last ≤ m → (j : Int) ≤ last + 1 → last < rows.length →
    (j = 0 ∧ last = -1 ∨ 0 < j ∧ idx.getD (j - 1) 0 = last ∧ 0 ≤ last) → signatoryref40_Rows.l0 (k + m + 1) row idx (j : Int) rows owners = some (rowsFrom rows.length row last (idx.drop j)) := by
  intro m
  induction m with
  | zero =>
    intro j last hm hj hl hc
    rw [signatoryref40_Rows.l0]
    by_cases h : j < idx.length
    · have e1 : idx.getD j 0 = idx[j] := by rw [List.getD_eq_getElem?_getD, List.getElem?_eq_getElem h]; rfl
      rw [if_pos (by omega), if_pos (by omega), rd_nat, e1, List.drop_eq_getElem_cons h, rowsFrom]
      by_cases g1 : idx[j] < 0
      · rw [if_pos g1, if_neg (by omega)]
      · rw [if_neg g1]
        by_cases g2 : idx[j] ≥ (rows.length : Int)
        · rw [if_pos g2, if_neg (by omega)]
        · rw [if_neg g2]
          by_cases g3 : idx[j] = row
          · rw [if_pos g3, if_neg (by omega)]
          · rw [if_neg g3]
            rcases hc with ⟨hc, hc2⟩ | ⟨hc, hc2, hc3⟩
            · omega
            · rw [if_pos (by omega), show wrap64 ((j : Int) - 1) = ((j - 1 : Nat) : Int) by unfold wrap64; omega, if_pos (by omega), if_pos (by omega), rd_nat, hc2, if_pos (by omega), if_neg (by omega)]
    · rw [if_neg (by omega), List.drop_eq_nil_of_le (by omega), rowsFrom]
      by_cases h1 : row ≥ 0
      · rw [if_pos h1, decide_eq_true (show 0 ≤ row from h1), Bool.true_and]
      · rw [if_neg h1, decide_eq_false (show ¬ 0 ≤ row from h1), Bool.false_and]
  | succ m ih =>
    intro j last hm hj hl hc
    rw [signatoryref40_Rows.l0]
    by_cases h : j < idx.length
    · have e1 : idx.getD j 0 = idx[j] := by rw [List.getD_eq_getElem?_getD, List.getElem?_eq_getElem h]; rfl
      rw [if_pos (by omega), if_pos (by omega), rd_nat, e1, List.drop_eq_getElem_cons h, rowsFrom]
      by_cases g1 : idx[j] < 0
      · rw [if_pos g1, if_neg (by omega)]
      · rw [if_neg g1]
        by_cases g2 : idx[j] ≥ (rows.length : Int)
        · rw [if_pos g2, if_neg (by omega)]
        · rw [if_neg g2]
          by_cases g3 : idx[j] = row
          · rw [if_pos g3, if_neg (by omega)]
          · rw [if_neg g3]
            have hw : wrap64 ((j : Int) + 1) = ((j + 1 : Nat) : Int) := wrap_succ (by omega)
            rcases hc with ⟨hc, hc2⟩ | ⟨hc, hc2, hc3⟩
            · rw [if_neg (by omega), if_pos (by omega), hw, show k + (m + 1) = k + m + 1 by omega]
              exact ih (j + 1) idx[j] (by omega) (by omega) (by omega) (.inr ⟨by omega, by rw [Nat.add_sub_cancel, e1], by omega⟩)
            · rw [if_pos (by omega), show wrap64 ((j : Int) - 1) = ((j - 1 : Nat) : Int) by unfold wrap64; omega, if_pos (by omega), if_pos (by omega), rd_nat, hc2]
              by_cases g4 : last ≥ idx[j]
              · rw [if_pos g4, if_neg (by omega)]
              · rw [if_neg g4, if_pos (by omega), hw, show k + (m + 1) = k + m + 1 by omega]
                exact ih (j + 1) idx[j] (by omega) (by omega) (by omega) (.inr ⟨by omega, by rw [Nat.add_sub_cancel, e1], by omega⟩)
    · rw [if_neg (by omega), List.drop_eq_nil_of_le (by omega), rowsFrom]
      by_cases h1 : row ≥ 0
      · rw [if_pos h1, decide_eq_true (show 0 ≤ row from h1), Bool.true_and]
      · rw [if_neg h1, decide_eq_false (show ¬ 0 ≤ row from h1), Bool.false_and]
theorem rows40_math (rows : List (List Int)) (owners : List Int) (row : Int) (idx : List Int) (hn : rows.length ≤ 64) (k : Nat) (hk : 100 ≤ k) : signatoryref40_Rows.f k rows owners row idx = some (rowsFrom rows.length row (-1) idx) := by
  unfold signatoryref40_Rows.f
  obtain ⟨k, rfl⟩ : ∃ k', k = k' + rows.length + 1 := ⟨k - rows.length - 1, by omega⟩
  exact rows40_l0 rows owners row idx hn k rows.length 0 (-1) (by omega) (by omega) (by omega) (.inl ⟨rfl, rfl⟩)
theorem rowsFrom_right {n : Nat} {row : Int} : ∀ {idx : List Int} {last : Int}, -1 ≤ last → rowsFrom n row last idx = true → 0 ≤ row ∧ row < n ∧ (helpRows n row last idx).length = idx.length ∧ ∀ x ∈ idx, 0 ≤ x ∧ x < n
  | [], last, _, h => by
    unfold rowsFrom at h
    simp only [Bool.and_eq_true, decide_eq_true_eq] at h
    exact ⟨h.1, h.2, rfl, fun _ hx => by cases hx⟩
  | r :: l, last, hl, h => by
    unfold rowsFrom at h
    split at h
    · rename_i hc
      obtain ⟨h1, h2, h3, h4⟩ := rowsFrom_right (by omega) h
      refine ⟨h1, h2, ?_, fun x hx => ?_⟩
      · unfold helpRows
        rw [if_pos hc, List.length_cons, List.length_cons, h3]
      · rcases List.mem_cons.1 hx with rfl | hx
        · exact ⟨by omega, hc.2.1⟩
        · exact h4 x hx
    · cases h
theorem plan_rows {rows : List (List Int)} {owners : List Int} (hc : checkP rows owners = 0) {row : Int} {idx : List Int} (h : rowsFrom rows.length row (-1) idx = true) :
    planQ rows owners row idx = ([], false, 0) ∨ ∃ y, planQ rows owners row idx = (y, true, 0) ∧ y.length = idx.length ∧ ∀ x ∈ y, inQ x = true := by
  obtain ⟨h1, h2, h3, h4⟩ := rowsFrom_right (by omega) h
  have hR := plan_right hc (r := row.toNat) (by omega) (helpRows_lt rows.length row idx (-1) (by omega)) (helpRows_few _ _ _)
  unfold planQ planT
  rw [if_pos hc, if_pos ⟨h1, h2⟩, if_pos h3]
  cases hy : Sig.combine ((helpRows rows.length row (-1) idx).map fun i => rows.getD i []) (rows.getD row.toNat []) with
  | none => exact .inl rfl
  | some y =>
    refine .inr ⟨y, rfl, ?_, fun x hx => ?_⟩
    · rw [Sig.combine_length hy, List.length_map, h3]
    · have := Sig.combine_inF hR.1 hy x hx
      unfold Sig.InF at this
      unfold inQ
      simp only [Bool.and_eq_true, decide_eq_true_eq]
      omega
theorem inQ_of {x : Int} : inQ x = true ↔ 0 ≤ x ∧ x < 1073741789 := by
  unfold inQ
  simp only [Bool.and_eq_true, decide_eq_true_eq]
theorem prodQ {x y : Int} (hx : inQ x = true) (hy : inQ y = true) : 0 ≤ x * y ∧ x * y ≤ 1152921504606846976 := by
  rw [inQ_of] at hx hy
  refine ⟨Int.mul_nonneg hx.1 hy.1, ?_⟩
  exact Int.le_trans (Int.mul_le_mul (show x ≤ 1073741788 by omega) (show y ≤ 1073741788 by omega) hy.1 (by omega)) (by omega)
theorem tm {z : Int} (h0 : 0 ≤ z) (h1 : z ≤ 9223372036854775807) : Int.tmod (wrap64 z) 1073741789 = z % 1073741789 := by rw [wrap_small h0 h1, Int.tmod_eq_emod_of_nonneg h0]
theorem modQ (z : Int) : inQ (z % 1073741789) = true := by rw [inQ_of]; omega
theorem part_one {y r v m : Int} (hy : inQ y = true) (h0 : 0 ≤ r) (h1 : r < 64) (hv : inQ v = true) (hm : inQ m = true) : partQ y r v [m] = ((y * v + m) % 1073741789, 0) := by
  have hp := prodQ hy hv
  have hM := inQ_of.1 hm
  have hs : sumL [m] = m := by
    show Int.tmod (wrap64 (0 + m)) 1073741789 = m
    rw [Int.zero_add, tm (by omega) (by omega)]; omega
  have ha : allQ [m] = true := by unfold allQ; simp [hm]
  unfold partQ
  rw [if_pos hy, if_pos ha, if_pos h0, if_pos h1, if_pos hv, hs, tm (by omega) (by omega)]
  show (Int.tmod (wrap64 (Int.tmod (wrap64 (0 + y * v % 1073741789)) 1073741789 + m)) 1073741789, (0 : Int)) = _
  rw [Int.zero_add, tm (z := y * v % 1073741789) (by omega) (by omega), tm (by omega) (by omega)]
  congr 1
  omega
def dotY (y v : List Int) : Nat → Int
  | 0 => 0
  | j + 1 => dotY y v j + y.getD j 0 * v.getD j 0
def sumN (m : List Int) : Nat → Int
  | 0 => 0
  | j + 1 => sumN m j + m.getD j 0
theorem getQ {l : List Int} (h : ∀ x ∈ l, inQ x = true) {j : Nat} (hj : j < l.length) : inQ (l.getD j 0) = true := by
  rw [List.getD_eq_getElem?_getD, List.getElem?_eq_getElem hj]; exact h _ (List.getElem_mem hj)
theorem masked_l0 (n : Nat) (given : List Int) (hn : n ≤ 1000) (hg : ∀ x ∈ given, inQ x = true) (k : Nat) : ∀ (d j : Nat) (l : List Int) (left : Int), n - j = d → j ≤ n → l.length = j → (∀ x ∈ l, inQ x = true) → inQ left = true → left = sumN l j % 1073741789 → (j = n → n = 0 ∨ left = 0) →
    ∃ m, signatorylaw40_masked.l0 (k + d + 1) (n : Int) given l left (n : Int) (j : Int) = some m ∧ m.length = n ∧ (∀ x ∈ m, inQ x = true) ∧ sumN m n % 1073741789 = 0 := by
  intro d
  induction d with
  | zero =>
    intro j l left hd hj hl hq hleft hs h0
    obtain rfl : j = n := by omega
    refine ⟨l, by rw [signatorylaw40_masked.l0, if_neg (by omega)], hl, hq, ?_⟩
    rcases h0 rfl with h | h
    · subst h; rfl
    · rw [← hs, h]
  | succ d ih =>
    intro j l left hd hj hl hq hleft hs h0
    have hsn : ∀ x, sumN (l ++ [x]) (j + 1) = sumN l j + x := fun x => by
      have : ∀ i, i ≤ j → sumN (l ++ [x]) i = sumN l i := by
        intro i
        induction i with
        | zero => intro _; rfl
        | succ i ihi =>
          intro hi
          rw [sumN, sumN, ihi (by omega), List.getD_eq_getElem?_getD, List.getElem?_append_left (by omega), ← List.getD_eq_getElem?_getD]
      rw [sumN, this j (Nat.le_refl _), List.getD_eq_getElem?_getD, List.getElem?_append_right (by omega), hl]
      simp
    have hL := inQ_of.1 hleft
    have hw : wrap64 ((j : Int) + 1) = ((j + 1 : Nat) : Int) := wrap_succ (by omega)
    have hw1 : wrap64 ((n : Int) - 1) = (n : Int) - 1 := by unfold wrap64; omega
    have step : ∀ x, inQ x = true → (j + 1 = n → (left + x) % 1073741789 = 0) → ∃ m, signatorylaw40_masked.l0 (k + d + 1) (n : Int) given (l ++ [x]) (Int.tmod (wrap64 (left + x)) 1073741789) (n : Int) (wrap64 ((j : Int) + 1)) = some m ∧ m.length = n ∧ (∀ x ∈ m, inQ x = true) ∧ sumN m n % 1073741789 = 0 := by
      intro x hx hz
      have hX := inQ_of.1 hx
      rw [tm (by omega) (by omega), hw]
      refine ih (j + 1) (l ++ [x]) _ (by omega) (by omega) (by rw [List.length_append, hl]; rfl) (fun z hz => ?_) (modQ _) ?_ (fun h => .inr (hz h))
      · rcases List.mem_append.1 hz with hz | hz
        · exact hq z hz
        · rw [List.mem_singleton.1 hz]; exact hx
      · rw [hsn, hs]; omega
    have hll : l.length < 17592186044416 := by omega
    rw [signatorylaw40_masked.l0, if_pos (by omega), hw1]
    by_cases hlast : (j : Int) = (n : Int) - 1
    · have e : Int.tmod (wrap64 (1073741789 - left)) 1073741789 = (1073741789 - left) % 1073741789 := tm (by omega) (by omega)
      have hz := step ((1073741789 - left) % 1073741789) (modQ _) (fun _ => by omega)
      by_cases hg1 : (j : Int) < (given.length : Int)
      · rw [if_pos hg1, if_pos (by omega), if_pos hlast, if_pos hll, e, ← Nat.add_assoc]; exact hz
      · rw [if_neg hg1, if_pos hlast, if_pos hll, e, ← Nat.add_assoc]; exact hz
    · by_cases hg1 : (j : Int) < (given.length : Int)
      · rw [if_pos hg1, if_pos (by omega), if_neg hlast, if_pos hll, rd_nat, ← Nat.add_assoc]
        exact step _ (getQ hg (by omega)) (fun h => absurd h (by omega))
      · rw [if_neg hg1, if_neg hlast, if_pos hll, ← Nat.add_assoc]
        exact step 0 (by decide) (fun h => absurd h (by omega))
theorem masked_math (n : Nat) (given : List Int) (hn : n ≤ 1000) (hg : ∀ x ∈ given, inQ x = true) (k : Nat) (hk : 2000 ≤ k) : ∃ m, signatorylaw40_masked.f k (n : Int) given = some m ∧ m.length = n ∧ (∀ x ∈ m, inQ x = true) ∧ sumN m n % 1073741789 = 0 := by
  unfold signatorylaw40_masked.f
  obtain ⟨k, rfl⟩ : ∃ k', k = k' + n + 1 := ⟨k - n - 1, by omega⟩
  exact masked_l0 n given hn hg k n 0 [] 0 (by omega) (by omega) rfl (fun _ h => by cases h) (by decide) rfl (fun h => .inl h.symm)
end Go.Proofs.Ytdbamhckgaoibaa.P
namespace Go.Proofs.Ytdbamhckgaoibaa.P
open Go.RowKit Go.Proofs.YtdbamhckgaoibaaW.PrintWords Go.Proofs.YtdbamhckgaoibaaW.PrintLast Go.Proofs.YtdbamhckgaoibaaW.PrintMore
theorem deal_p {A0 A1 A2 : Option Addr} {c0 c1 c2 : Nat} {rows : List (List Int)} {owners : List Int} {secret : Int} {random : List Int} {sh : List S38} {cm : List Int} {e : Int} {W : World} (h0 : Sl (Kd.slice 3 (Kd.int .i64)) W A0 c0 rows) (h1 : Sl (Kd.int .i64) W A1 c1 owners) (h2 : Sl (Kd.int .i64) W A2 c2 random)
    (h : dealQ rows owners secret random = (sh, cm, e)) :
    Calls Try.prog 22 #[.agg #[.slice A0 rows.length c0, .slice A1 owners.length c1], .int .i64 secret, .slice A2 random.length c2] W fun e' w' => ∃ B0 d0 B1 d1, e' = .returned (.tuple #[.slice B0 sh.length d0, .slice B1 cm.length d1, .int .i64 e]) ∧ Sl k38 w' B0 d0 sh ∧ Sl (Kd.int .i64) w' B1 d1 cm ∧ Below W.heap.size W w' := by
  have := deal_w (secret := secret) h0 h1 h2
  rw [h] at this
  refine this.mono ?_
  rintro e' w' ⟨v0, v1, rfl, g0, g1, hb⟩
  obtain ⟨B0, d0, rfl, s0⟩ := Sl.ofR g0
  obtain ⟨B1, d1, rfl, s1⟩ := Sl.ofR g1
  exact ⟨B0, d0, B1, d1, rfl, s0, s1, hb⟩
end Go.Proofs.Ytdbamhckgaoibaa.P
namespace Go.Proofs.Ytdbamhckgaoibaa.P
open Go.RowKit Go.Proofs.YtdbamhckgaoibaaW.PrintWords Go.Proofs.YtdbamhckgaoibaaW.PrintLast Go.Proofs.YtdbamhckgaoibaaW.PrintMore
abbrev ex3R : List (List Int) := [[1, 1], [1, 2], [1, 3]]
theorem ex3_check : checkP ex3R [0, 1, 2] = 0 := by decide +kernel
theorem ex3_comb : Sig.combine [[1, 2], [1, 3]] [1, 1] = some [2, 1073741788] := by rw [combine_inv1]; decide +kernel
theorem ex3_comb0 : Sig.combine [] [1, 1] = none := by rw [combine_inv1]; decide +kernel
theorem ex3_plan : planQ ex3R [0, 1, 2] 0 [1, 2] = ([2, 1073741788], true, 0) := by
  unfold planQ planT
  rw [if_pos ex3_check, if_pos (by decide), show helpRows ex3R.length 0 (-1) [1, 2] = [1, 2] from by decide, if_pos (by decide), show ([1, 2].map fun i => ex3R.getD i []) = [[1, 2], [1, 3]] from rfl, show ex3R.getD (Int.toNat 0) [] = [1, 1] from rfl, ex3_comb]
theorem ex3_plan0 : planQ ex3R [0, 1, 2] 0 [] = ([], false, 0) := by
  unfold planQ planT
  rw [if_pos ex3_check, if_pos (by decide), show helpRows ex3R.length 0 (-1) [] = [] from by decide, if_pos (by decide), show (([] : List Nat).map fun i => ex3R.getD i []) = [] from rfl, show ex3R.getD (Int.toNat 0) [] = [1, 1] from rfl, ex3_comb0]
theorem ex3_plan1 : planQ ex3R [0, 1, 2] 0 [0, 1] = ([], false, 1) := by
  unfold planQ
  rw [if_pos ex3_check, if_pos (by decide), show helpRows ex3R.length 0 (-1) [0, 1] = [] from by decide, if_neg (by decide)]
theorem ex_part1 : partQ 0 0 0 [] = (0, 0) := by decide +kernel
theorem ex_part2 : partQ 1 0 5 [1073741784] = (0, 0) := by decide +kernel
theorem ex_part3 : partQ 1073741789 0 0 [] = (0, 1) := by decide +kernel
theorem ex_part4 : partQ 0 64 0 [] = (0, 340) := by decide +kernel
theorem ex_part5 : partQ 2 1 118 [50] = (286, 0) := by decide +kernel
theorem ex_part6 : partQ 1073741788 2 127 [1073741739] = (1073741612, 0) := by decide +kernel
abbrev ex3C : List Int := [100, 9].map commitQ
theorem ex3_deal : dealQ ex3R [0, 1, 2] 100 [9] = ([⟨0, 109⟩, ⟨1, 118⟩, ⟨2, 127⟩], ex3C, 0) := by
  rw [deal_good ex3_check (by decide) (by decide) (by decide)]
  rfl
theorem ex3_checkD : checkD ex3R [0, 1, 2] ex3C = 0 := check_dealt (s := [100, 9]) ex3_check rfl
theorem ex3_fits (v : Int) (hv : inQ v = true) : fitsD ex3R [0, 1, 2] ex3C 0 v = (commitQ v == commitQ 109, 0) := by
  have := fits_dealt (s := [100, 9]) ex3_check rfl (i := 0) (by decide) hv
  rw [show ((0 : Nat) : Int) = 0 from rfl] at this
  rw [this, show Sig.dot (ex3R.getD 0 []) [100, 9] = 109 from rfl]
theorem ex3_pub : (publicD ex3R [0, 1, 2] ex3C 0).2 = 0 := by
  unfold publicD
  rw [if_pos ex3_checkD, if_pos (by decide)]
theorem ex_sum1 : sumL [286, 1073741612] = 109 := by decide +kernel
theorem ex_sum2 : sumL [286, 1073741612, 1] = 110 := by decide +kernel
theorem ex_commit109 : commitQ 110 ≠ commitQ 109 := by decide +kernel
theorem ex_fin1 : finishQ ex3R [0, 1, 2] ex3C 0 [286, 1073741612] = (0, 109, true, 0) := by
  unfold finishQ
  rw [if_pos ex3_pub, if_pos (by decide +kernel), ex_sum1, ex3_fits 109 (by decide), if_pos ⟨rfl, beq_self_eq_true _⟩]
theorem ex_fin2 : finishQ ex3R [0, 1, 2] ex3C 0 [286, 1073741612, 1] = (0, 0, false, 0) := by
  unfold finishQ
  rw [if_pos ex3_pub, if_pos (by decide +kernel), ex_sum2, ex3_fits 110 (by decide), if_neg (fun h => ex_commit109 (beq_iff_eq.1 h.2))]
theorem ex_fin3 : finishQ ex3R [0, 1, 2] ex3C 3 [] = (0, 0, false, 1) := by
  have : publicD ex3R [0, 1, 2] ex3C 3 = (0, 1) := by
    unfold publicD
    rw [if_pos ex3_checkD, if_neg (by decide)]
  unfold finishQ
  rw [this, if_neg (by decide)]
theorem ex_fin4 : finishQ ex3R [0, 1, 2] [] 3 [] = (0, 0, false, 340) := by
  have hc : checkD ex3R [0, 1, 2] [] = 340 := by
    unfold checkD
    rw [if_pos ex3_check, if_neg (fun h => by have h1 := h.1; revert h1; decide)]
  have : publicD ex3R [0, 1, 2] [] 3 = (0, 340) := by
    unfold publicD
    rw [hc, if_neg (by decide)]
  unfold finishQ
  rw [this, if_neg (by decide)]
end Go.Proofs.Ytdbamhckgaoibaa.P
namespace Go.Proofs.Ytdbamhckgaoibaa.P
open Go.RowKit Go.Proofs.YtdbamhckgaoibaaW.PrintWords Go.Proofs.YtdbamhckgaoibaaW.PrintLast Go.Proofs.YtdbamhckgaoibaaW.PrintMore
set_option linter.unusedVariables false
theorem three_p (W : World) : Calls Try.prog 108 #[] W fun e' w' => ∃ B0 d0 B1 d1, e' = .returned (.agg #[.slice B0 3 d0, .slice B1 3 d1]) ∧ Sl (Kd.slice 3 (Kd.int .i64)) w' B0 d0 ex3R ∧ Sl (Kd.int .i64) w' B1 d1 [0, 1, 2] ∧ Below W.heap.size W w' := by
  refine (signatorylaw40_three.calls ex3R [0, 1, 2] W rfl).mono ?_
  rintro e' w' ⟨v0, v1, rfl, g0, g1, hb⟩
  obtain ⟨B0, d0, rfl, s0⟩ := Sl.ofN g0
  obtain ⟨B1, d1, rfl, s1⟩ := Sl.ofR g1
  exact ⟨B0, d0, B1, d1, rfl, s0, s1, hb⟩
theorem plan_p {A0 A1 A2 : Option Addr} {c0 c1 c2 : Nat} {rows : List (List Int)} {owners : List Int} {row : Int} {idx y : List Int} {ok : Bool} {e : Int} {W : World} (h0 : Sl (Kd.slice 3 (Kd.int .i64)) W A0 c0 rows) (h1 : Sl (Kd.int .i64) W A1 c1 owners) (h2 : Sl (Kd.int .i64) W A2 c2 idx) (h : planQ rows owners row idx = (y, ok, e)) :
    Calls Try.prog 40 #[.agg #[.slice A0 rows.length c0, .slice A1 owners.length c1], .int .i64 row, .slice A2 idx.length c2] W fun e' w' => ∃ B d, e' = .returned (.tuple #[.slice B y.length d, .bool ok, .int .i64 e]) ∧ Sl (Kd.int .i64) w' B d y ∧ Below W.heap.size W w' := by
  have := plan_w (row := row) h0 h1 h2
  rw [h] at this
  refine this.mono ?_
  rintro e' w' ⟨v, rfl, g, hb⟩
  obtain ⟨B, d, rfl, s⟩ := Sl.ofR g
  exact ⟨B, d, rfl, s, hb⟩
theorem part_p {y f0 f1 : Int} {A2 : Option Addr} {c2 : Nat} {masks : List Int} {x e : Int} {W : World} (h2 : Sl (Kd.int .i64) W A2 c2 masks) (h : partQ y f0 f1 masks = (x, e)) :
    Calls Try.prog 42 #[.int .i64 y, .agg #[.int .i64 f0, .int .i64 f1], .slice A2 masks.length c2] W fun e' w' => e' = .returned (.tuple #[.int .i64 x, .int .i64 e]) ∧ Below W.heap.size W w' := by
  have := part_w (y := y) (f0 := f0) (f1 := f1) h2
  rwa [h] at this
theorem finish_p {A0 A1 A2 A3 : Option Addr} {c0 c1 c2 c3 : Nat} {rows : List (List Int)} {owners cm : List Int} {ep row : Int} {parts : List Int} {f0 f1 : Int} {ok : Bool} {e : Int} {W : World} (h0 : Sl (Kd.slice 3 (Kd.int .i64)) W A0 c0 rows) (h1 : Sl (Kd.int .i64) W A1 c1 owners) (h2 : Sl (Kd.int .i64) W A2 c2 cm) (h3 : Sl (Kd.int .i64) W A3 c3 parts) (h : finishQ rows owners cm row parts = (f0, f1, ok, e)) :
    Calls Try.prog 45 #[.agg #[.int .i64 ep, .slice A0 rows.length c0, .slice A1 owners.length c1, .slice A2 cm.length c2], .int .i64 row, .slice A3 parts.length c3] W fun e' w' => e' = .returned (.tuple #[.agg #[.int .i64 f0, .int .i64 f1], .bool ok, .int .i64 e]) ∧ Below W.heap.size W w' := by
  have := finish_w (ep := ep) (row := row) h0 h1 h2 h3
  rwa [h] at this
theorem same40_p {A0 A1 : Option Addr} {c0 c1 : Nat} {l m : List Int} {r : Bool} {W : World} (h0 : Sl (Kd.int .i64) W A0 c0 l) (h1 : Sl (Kd.int .i64) W A1 c1 m) (h : signatoryref40_SameInts.f 300 l m = some r) :
    Calls Try.prog 44 #[.slice A0 l.length c0, .slice A1 m.length c1] W fun e' w' => e' = .returned (.bool r) ∧ Below W.heap.size W w' :=
  (signatoryref40_SameInts.calls 300 A0 c0 l A1 c1 m r W h0.rd h0.le h1.rd h1.le h).mono fun _ _ h => ⟨h.1, h.2.below⟩
set_option maxRecDepth 100000 in
set_option maxHeartbeats 8000000 in
theorem sane40_c (w : World) : Calls Try.prog 38 #[] w fun e w' => e = .returned (.bool true) ∧ Below w.heap.size w w' := by
  go_enter Try.func38, Try.ntmps38
  go_wp2_with fail
  refine (three_p _).mono ?_
  rintro e w1 ⟨Ao, co, Bo, do_, rfl, ho, hp, hb⟩
  have HB := Aside0.mk hb
  have H_rows := Aside0.mk ho
  have H_own := Aside0.mk hp
  clear hb ho hp
  go_wp2_with fail
  obtain ⟨w2, hw⟩ : ∃ W_, W_ = w1.alloc (.cells #[.int .i64 1, .int .i64 2] 3) := ⟨_, rfl⟩
  rw [← hw]
  have hb : Below w1.heap.size w1 w2 := by rw [hw]; exact below_alloc1 _ _
  have hz : w1.heap.size = w1.heap.size := rfl
  have hs : w2.heap.size = w1.heap.size + 1 := by rw [hw, ← hz]; simp
  have hl : Sl (Kd.int .i64) w2 (some ⟨w1.heap.size, 0, none⟩) 2 [1, 2] := by rw [hw, ← hz]; exact Sl.ints w1 3 [1, 2] (by decide)
  replace H_rows := Aside0.mk (H_rows.out.below hb)
  replace H_own := Aside0.mk (H_own.out.below hb)
  replace HB := Aside0.mk (below_then HB.out HB.out.size hb)
  have H_i1 := Aside0.mk hl; clear hl
  clear hw hb hz
  have HZ := Aside0.mk hs; clear hs
  refine (plan_p H_rows.out H_own.out H_i1.out ex3_plan).mono ?_
  rintro e w3 ⟨Ay, cy, rfl, h1, hb⟩
  clear H_rows
  clear H_own
  clear H_i1
  replace HB := Aside0.mk (below_then HB.out HB.out.size hb)
  have H_y := Aside0.mk h1
  clear hb h1
  go_wp2_with fail
  refine (three_p _).mono ?_
  rintro e w4 ⟨Ao, co, Bo, do_, rfl, ho, hp, hb⟩
  replace H_y := Aside0.mk (H_y.out.below hb)
  replace HB := Aside0.mk (below_then HB.out HB.out.size hb)
  have H_rows := Aside0.mk ho
  have H_own := Aside0.mk hp
  clear hb ho hp
  go_wp2_with fail
  refine (plan_p H_rows.out H_own.out (Sl.none_ _ _) ex3_plan0).mono ?_
  rintro e w5 ⟨_, _, rfl, _, hb⟩
  replace H_y := Aside0.mk (H_y.out.below hb)
  clear H_rows
  clear H_own
  replace HB := Aside0.mk (below_then HB.out HB.out.size hb)
  clear hb
  go_wp2_with fail
  refine (three_p _).mono ?_
  rintro e w6 ⟨Ao, co, Bo, do_, rfl, ho, hp, hb⟩
  replace H_y := Aside0.mk (H_y.out.below hb)
  replace HB := Aside0.mk (below_then HB.out HB.out.size hb)
  have H_rows := Aside0.mk ho
  have H_own := Aside0.mk hp
  clear hb ho hp
  go_wp2_with fail
  obtain ⟨w7, hw⟩ : ∃ W_, W_ = w6.alloc (.cells #[.int .i64 0, .int .i64 1] 3) := ⟨_, rfl⟩
  rw [← hw]
  have hb : Below w6.heap.size w6 w7 := by rw [hw]; exact below_alloc1 _ _
  have hz : w6.heap.size = w6.heap.size := rfl
  have hs : w7.heap.size = w6.heap.size + 1 := by rw [hw, ← hz]; simp
  have hl : Sl (Kd.int .i64) w7 (some ⟨w6.heap.size, 0, none⟩) 2 [0, 1] := by rw [hw, ← hz]; exact Sl.ints w6 3 [0, 1] (by decide)
  replace H_y := Aside0.mk (H_y.out.below hb)
  replace H_rows := Aside0.mk (H_rows.out.below hb)
  replace H_own := Aside0.mk (H_own.out.below hb)
  replace HB := Aside0.mk (below_then HB.out HB.out.size hb)
  have H_i1 := Aside0.mk hl; clear hl
  clear hw hb hz
  have HZ := Aside0.mk hs; clear hs
  refine (plan_p H_rows.out H_own.out H_i1.out ex3_plan1).mono ?_
  rintro e w8 ⟨_, _, rfl, _, hb⟩
  replace H_y := Aside0.mk (H_y.out.below hb)
  clear H_rows
  clear H_own
  clear H_i1
  replace HB := Aside0.mk (below_then HB.out HB.out.size hb)
  clear hb
  go_wp2_with fail
  refine (part_p (Sl.none_ _ _) ex_part1).mono ?_
  rintro e w9 ⟨rfl, hb⟩
  replace H_y := Aside0.mk (H_y.out.below hb)
  replace HB := Aside0.mk (below_then HB.out HB.out.size hb)
  clear hb
  go_wp2_with fail
  obtain ⟨w10, hw⟩ : ∃ W_, W_ = w9.alloc (.cells #[.int .i64 1073741784] 3) := ⟨_, rfl⟩
  rw [← hw]
  have hb : Below w9.heap.size w9 w10 := by rw [hw]; exact below_alloc1 _ _
  have hz : w9.heap.size = w9.heap.size := rfl
  have hs : w10.heap.size = w9.heap.size + 1 := by rw [hw, ← hz]; simp
  have hl : Sl (Kd.int .i64) w10 (some ⟨w9.heap.size, 0, none⟩) 1 [1073741784] := by rw [hw, ← hz]; exact Sl.ints w9 3 [1073741784] (by decide)
  replace H_y := Aside0.mk (H_y.out.below hb)
  replace HB := Aside0.mk (below_then HB.out HB.out.size hb)
  have H_i1 := Aside0.mk hl; clear hl
  clear hw hb hz
  have HZ := Aside0.mk hs; clear hs
  refine (part_p H_i1.out ex_part2).mono ?_
  rintro e w11 ⟨rfl, hb⟩
  replace H_y := Aside0.mk (H_y.out.below hb)
  clear H_i1
  replace HB := Aside0.mk (below_then HB.out HB.out.size hb)
  clear hb
  go_wp2_with fail
  refine (part_p (Sl.none_ _ _) ex_part3).mono ?_
  rintro e w12 ⟨rfl, hb⟩
  replace H_y := Aside0.mk (H_y.out.below hb)
  replace HB := Aside0.mk (below_then HB.out HB.out.size hb)
  clear hb
  go_wp2_with fail
  refine (part_p (Sl.none_ _ _) ex_part4).mono ?_
  rintro e w13 ⟨rfl, hb⟩
  replace H_y := Aside0.mk (H_y.out.below hb)
  replace HB := Aside0.mk (below_then HB.out HB.out.size hb)
  clear hb
  go_wp2_with fail
  obtain ⟨w14, hw⟩ : ∃ W_, W_ = w13.alloc (.cells #[.int .i64 2, .int .i64 1073741788] 3) := ⟨_, rfl⟩
  rw [← hw]
  have hb : Below w13.heap.size w13 w14 := by rw [hw]; exact below_alloc1 _ _
  have hz : w13.heap.size = w13.heap.size := rfl
  have hs : w14.heap.size = w13.heap.size + 1 := by rw [hw, ← hz]; simp
  have hl : Sl (Kd.int .i64) w14 (some ⟨w13.heap.size, 0, none⟩) 2 [2, 1073741788] := by rw [hw, ← hz]; exact Sl.ints w13 3 [2, 1073741788] (by decide)
  replace H_y := Aside0.mk (H_y.out.below hb)
  replace HB := Aside0.mk (below_then HB.out HB.out.size hb)
  have H_i1 := Aside0.mk hl; clear hl
  clear hw hb hz
  have HZ := Aside0.mk hs; clear hs
  refine (same40_p (r := true) H_y.out H_i1.out (by decide +kernel)).mono ?_
  rintro e w15 ⟨rfl, hb⟩
  clear H_y
  clear H_i1
  replace HB := Aside0.mk (below_then HB.out HB.out.size hb)
  clear hb
  go_wp2_with fail
  refine (three_p _).mono ?_
  rintro e w16 ⟨Ao, co, Bo, do_, rfl, ho, hp, hb⟩
  replace HB := Aside0.mk (below_then HB.out HB.out.size hb)
  have H_rows := Aside0.mk ho
  have H_own := Aside0.mk hp
  clear hb ho hp
  go_wp2_with fail
  obtain ⟨w17, hw⟩ : ∃ W_, W_ = w16.alloc (.cells #[.int .i64 9] 3) := ⟨_, rfl⟩
  rw [← hw]
  have hb : Below w16.heap.size w16 w17 := by rw [hw]; exact below_alloc1 _ _
  have hz : w16.heap.size = w16.heap.size := rfl
  have hs : w17.heap.size = w16.heap.size + 1 := by rw [hw, ← hz]; simp
  have hl : Sl (Kd.int .i64) w17 (some ⟨w16.heap.size, 0, none⟩) 1 [9] := by rw [hw, ← hz]; exact Sl.ints w16 3 [9] (by decide)
  replace H_rows := Aside0.mk (H_rows.out.below hb)
  replace H_own := Aside0.mk (H_own.out.below hb)
  replace HB := Aside0.mk (below_then HB.out HB.out.size hb)
  have H_i1 := Aside0.mk hl; clear hl
  clear hw hb hz
  have HZ := Aside0.mk hs; clear hs
  refine (deal_p H_rows.out H_own.out H_i1.out ex3_deal).mono ?_
  rintro e w18 ⟨As, cs, Ac, cc, rfl, _, h2, hb⟩
  clear H_rows
  clear H_own
  clear H_i1
  replace HB := Aside0.mk (below_then HB.out HB.out.size hb)
  have H_cm := Aside0.mk h2
  clear hb h2
  go_wp2_with fail
  refine (three_p _).mono ?_
  rintro e w19 ⟨Ao, co, Bo, do_, rfl, ho, hp, hb⟩
  replace H_cm := Aside0.mk (H_cm.out.below hb)
  replace HB := Aside0.mk (below_then HB.out HB.out.size hb)
  have H_rows := Aside0.mk ho
  have H_own := Aside0.mk hp
  clear hb ho hp
  go_wp2_with fail
  obtain ⟨w20, hw⟩ : ∃ W_, W_ = w19.alloc (.cells #[.int .i64 0, .slice Ao 3 co, .slice Bo 3 do_, .slice Ac 2 cc] 57) := ⟨_, rfl⟩
  rw [← hw]
  have hb : Below w19.heap.size w19 w20 := by rw [hw]; exact below_alloc1 _ _
  have hz : w19.heap.size = w19.heap.size := rfl
  have hs : w20.heap.size = w19.heap.size + 1 := by rw [hw, ← hz]; simp
  replace H_cm := Aside0.mk (H_cm.out.below hb)
  replace H_rows := Aside0.mk (H_rows.out.below hb)
  replace H_own := Aside0.mk (H_own.out.below hb)
  replace HB := Aside0.mk (below_then HB.out HB.out.size hb)
  have H_ky0 := Aside0.mk (⟨by rw [hw, ← hz]; simp only [World.cell?]; rw [World.alloc_heap_new]; rfl, by rw [hs]; omega⟩ : w20.cell? ⟨w19.heap.size, 0, none⟩ = some (.int .i64 0) ∧ w19.heap.size < w20.heap.size)
  have H_ky1 := Aside0.mk (⟨by rw [hw, ← hz]; simp only [World.cell?]; rw [World.alloc_heap_new]; rfl, by rw [hs]; omega⟩ : w20.cell? ⟨w19.heap.size, 1, none⟩ = some (.slice Ao 3 co) ∧ w19.heap.size < w20.heap.size)
  have H_ky2 := Aside0.mk (⟨by rw [hw, ← hz]; simp only [World.cell?]; rw [World.alloc_heap_new]; rfl, by rw [hs]; omega⟩ : w20.cell? ⟨w19.heap.size, 2, none⟩ = some (.slice Bo 3 do_) ∧ w19.heap.size < w20.heap.size)
  have H_ky3 := Aside0.mk (⟨by rw [hw, ← hz]; simp only [World.cell?]; rw [World.alloc_heap_new]; rfl, by rw [hs]; omega⟩ : w20.cell? ⟨w19.heap.size, 3, none⟩ = some (.slice Ac 2 cc) ∧ w19.heap.size < w20.heap.size)
  clear hw hb hz
  have HZ := Aside0.mk hs; clear hs
  obtain ⟨w21, hw⟩ : ∃ W_, W_ = w20.alloc (.cells #[.int .i64 50] 3) := ⟨_, rfl⟩
  rw [← hw]
  have hb : Below w20.heap.size w20 w21 := by rw [hw]; exact below_alloc1 _ _
  have hz : w20.heap.size = w19.heap.size + 1 := HZ.out
  have hs : w21.heap.size = w19.heap.size + 1 + 1 := by rw [hw, ← hz]; simp
  have hl : Sl (Kd.int .i64) w21 (some ⟨w19.heap.size + 1, 0, none⟩) 1 [50] := by rw [hw, ← hz]; exact Sl.ints w20 3 [50] (by decide)
  replace H_cm := Aside0.mk (H_cm.out.below hb)
  replace H_rows := Aside0.mk (H_rows.out.below hb)
  replace H_own := Aside0.mk (H_own.out.below hb)
  replace H_ky0 := Aside0.mk (cell_on H_ky0.out hb)
  replace H_ky1 := Aside0.mk (cell_on H_ky1.out hb)
  replace H_ky2 := Aside0.mk (cell_on H_ky2.out hb)
  replace H_ky3 := Aside0.mk (cell_on H_ky3.out hb)
  replace HB := Aside0.mk (below_then HB.out HB.out.size hb)
  have H_i1 := Aside0.mk hl; clear hl
  clear hw hb hz
  have HZ := Aside0.mk hs; clear hs
  refine (part_p H_i1.out ex_part5).mono ?_
  rintro e w22 ⟨rfl, hb⟩
  replace H_cm := Aside0.mk (H_cm.out.below hb)
  replace H_rows := Aside0.mk (H_rows.out.below hb)
  replace H_own := Aside0.mk (H_own.out.below hb)
  replace H_ky0 := Aside0.mk (cell_on H_ky0.out hb)
  replace H_ky1 := Aside0.mk (cell_on H_ky1.out hb)
  replace H_ky2 := Aside0.mk (cell_on H_ky2.out hb)
  replace H_ky3 := Aside0.mk (cell_on H_ky3.out hb)
  clear H_i1
  replace HB := Aside0.mk (below_then HB.out HB.out.size hb)
  clear hb
  go_wp2_with fail
  obtain ⟨w23, hw⟩ : ∃ W_, W_ = w22.alloc (.cells #[.int .i64 1073741739] 3) := ⟨_, rfl⟩
  rw [← hw]
  have hb : Below w22.heap.size w22 w23 := by rw [hw]; exact below_alloc1 _ _
  have hz : w22.heap.size = w22.heap.size := rfl
  have hs : w23.heap.size = w22.heap.size + 1 := by rw [hw, ← hz]; simp
  have hl : Sl (Kd.int .i64) w23 (some ⟨w22.heap.size, 0, none⟩) 1 [1073741739] := by rw [hw, ← hz]; exact Sl.ints w22 3 [1073741739] (by decide)
  replace H_cm := Aside0.mk (H_cm.out.below hb)
  replace H_rows := Aside0.mk (H_rows.out.below hb)
  replace H_own := Aside0.mk (H_own.out.below hb)
  replace H_ky0 := Aside0.mk (cell_on H_ky0.out hb)
  replace H_ky1 := Aside0.mk (cell_on H_ky1.out hb)
  replace H_ky2 := Aside0.mk (cell_on H_ky2.out hb)
  replace H_ky3 := Aside0.mk (cell_on H_ky3.out hb)
  replace HB := Aside0.mk (below_then HB.out HB.out.size hb)
  have H_i1 := Aside0.mk hl; clear hl
  clear hw hb hz
  have HZ := Aside0.mk hs; clear hs
  refine (part_p H_i1.out ex_part6).mono ?_
  rintro e w24 ⟨rfl, hb⟩
  replace H_cm := Aside0.mk (H_cm.out.below hb)
  replace H_rows := Aside0.mk (H_rows.out.below hb)
  replace H_own := Aside0.mk (H_own.out.below hb)
  replace H_ky0 := Aside0.mk (cell_on H_ky0.out hb)
  replace H_ky1 := Aside0.mk (cell_on H_ky1.out hb)
  replace H_ky2 := Aside0.mk (cell_on H_ky2.out hb)
  replace H_ky3 := Aside0.mk (cell_on H_ky3.out hb)
  clear H_i1
  replace HB := Aside0.mk (below_then HB.out HB.out.size hb)
  clear hb
  have x_ky0 := H_ky0.out.1
  have x_ky1 := H_ky1.out.1
  have x_ky2 := H_ky2.out.1
  have x_ky3 := H_ky3.out.1
  go_wp2_with fail
  clear x_ky0 x_ky1 x_ky2 x_ky3
  obtain ⟨w25, hw⟩ : ∃ W_, W_ = w24.alloc (.cells #[.int .i64 286, .int .i64 1073741612] 3) := ⟨_, rfl⟩
  rw [← hw]
  have hb : Below w24.heap.size w24 w25 := by rw [hw]; exact below_alloc1 _ _
  have hz : w24.heap.size = w24.heap.size := rfl
  have hs : w25.heap.size = w24.heap.size + 1 := by rw [hw, ← hz]; simp
  have hl : Sl (Kd.int .i64) w25 (some ⟨w24.heap.size, 0, none⟩) 2 [286, 1073741612] := by rw [hw, ← hz]; exact Sl.ints w24 3 [286, 1073741612] (by decide)
  replace H_cm := Aside0.mk (H_cm.out.below hb)
  replace H_rows := Aside0.mk (H_rows.out.below hb)
  replace H_own := Aside0.mk (H_own.out.below hb)
  replace H_ky0 := Aside0.mk (cell_on H_ky0.out hb)
  replace H_ky1 := Aside0.mk (cell_on H_ky1.out hb)
  replace H_ky2 := Aside0.mk (cell_on H_ky2.out hb)
  replace H_ky3 := Aside0.mk (cell_on H_ky3.out hb)
  replace HB := Aside0.mk (below_then HB.out HB.out.size hb)
  have H_i1 := Aside0.mk hl; clear hl
  clear hw hb hz
  have HZ := Aside0.mk hs; clear hs
  refine (finish_p H_rows.out H_own.out H_cm.out H_i1.out ex_fin1).mono ?_
  rintro e w26 ⟨rfl, hb⟩
  replace H_cm := Aside0.mk (H_cm.out.below hb)
  replace H_rows := Aside0.mk (H_rows.out.below hb)
  replace H_own := Aside0.mk (H_own.out.below hb)
  replace H_ky0 := Aside0.mk (cell_on H_ky0.out hb)
  replace H_ky1 := Aside0.mk (cell_on H_ky1.out hb)
  replace H_ky2 := Aside0.mk (cell_on H_ky2.out hb)
  replace H_ky3 := Aside0.mk (cell_on H_ky3.out hb)
  clear H_i1
  replace HB := Aside0.mk (below_then HB.out HB.out.size hb)
  clear hb
  go_upto_region 15 with fail
  obtain ⟨w27, hw⟩ : ∃ W_, W_ = w26.alloc (.cells #[.int .i64 0, .int .i64 109] 38) := ⟨_, rfl⟩
  rw [← hw]
  have hb : Below w26.heap.size w26 w27 := by rw [hw]; exact below_alloc1 _ _
  have hz : w26.heap.size = w26.heap.size := rfl
  have hs : w27.heap.size = w26.heap.size + 1 := by rw [hw, ← hz]; simp
  replace H_cm := Aside0.mk (H_cm.out.below hb)
  replace H_rows := Aside0.mk (H_rows.out.below hb)
  replace H_own := Aside0.mk (H_own.out.below hb)
  replace H_ky0 := Aside0.mk (cell_on H_ky0.out hb)
  replace H_ky1 := Aside0.mk (cell_on H_ky1.out hb)
  replace H_ky2 := Aside0.mk (cell_on H_ky2.out hb)
  replace H_ky3 := Aside0.mk (cell_on H_ky3.out hb)
  replace HB := Aside0.mk (below_then HB.out HB.out.size hb)
  have H_fs0 := Aside0.mk (⟨by rw [hw, ← hz]; simp only [World.cell?]; rw [World.alloc_heap_new]; rfl, by rw [hs]; omega⟩ : w27.cell? ⟨w26.heap.size, 0, none⟩ = some (.int .i64 0) ∧ w26.heap.size < w27.heap.size)
  have H_fs1 := Aside0.mk (⟨by rw [hw, ← hz]; simp only [World.cell?]; rw [World.alloc_heap_new]; rfl, by rw [hs]; omega⟩ : w27.cell? ⟨w26.heap.size, 1, none⟩ = some (.int .i64 109) ∧ w26.heap.size < w27.heap.size)
  clear hw hb hz
  have HZ := Aside0.mk hs; clear hs
  have x_ky0 := H_ky0.out.1
  have x_ky1 := H_ky1.out.1
  have x_ky2 := H_ky2.out.1
  have x_ky3 := H_ky3.out.1
  go_wp2_with fail
  clear x_ky0 x_ky1 x_ky2 x_ky3
  obtain ⟨w28, hw⟩ : ∃ W_, W_ = w27.alloc (.cells #[.int .i64 286, .int .i64 1073741612, .int .i64 1] 3) := ⟨_, rfl⟩
  rw [← hw]
  have hb : Below w27.heap.size w27 w28 := by rw [hw]; exact below_alloc1 _ _
  have hz : w27.heap.size = w27.heap.size := rfl
  have hs : w28.heap.size = w27.heap.size + 1 := by rw [hw, ← hz]; simp
  have hl : Sl (Kd.int .i64) w28 (some ⟨w27.heap.size, 0, none⟩) 3 [286, 1073741612, 1] := by rw [hw, ← hz]; exact Sl.ints w27 3 [286, 1073741612, 1] (by decide)
  replace H_cm := Aside0.mk (H_cm.out.below hb)
  replace H_rows := Aside0.mk (H_rows.out.below hb)
  replace H_own := Aside0.mk (H_own.out.below hb)
  replace H_ky0 := Aside0.mk (cell_on H_ky0.out hb)
  replace H_ky1 := Aside0.mk (cell_on H_ky1.out hb)
  replace H_ky2 := Aside0.mk (cell_on H_ky2.out hb)
  replace H_ky3 := Aside0.mk (cell_on H_ky3.out hb)
  replace H_fs0 := Aside0.mk (cell_on H_fs0.out hb)
  replace H_fs1 := Aside0.mk (cell_on H_fs1.out hb)
  replace HB := Aside0.mk (below_then HB.out HB.out.size hb)
  have H_i1 := Aside0.mk hl; clear hl
  clear hw hb hz
  have HZ := Aside0.mk hs; clear hs
  refine (finish_p H_rows.out H_own.out H_cm.out H_i1.out ex_fin2).mono ?_
  rintro e w29 ⟨rfl, hb⟩
  replace H_cm := Aside0.mk (H_cm.out.below hb)
  replace H_rows := Aside0.mk (H_rows.out.below hb)
  replace H_own := Aside0.mk (H_own.out.below hb)
  replace H_ky0 := Aside0.mk (cell_on H_ky0.out hb)
  replace H_ky1 := Aside0.mk (cell_on H_ky1.out hb)
  replace H_ky2 := Aside0.mk (cell_on H_ky2.out hb)
  replace H_ky3 := Aside0.mk (cell_on H_ky3.out hb)
  replace H_fs0 := Aside0.mk (cell_on H_fs0.out hb)
  replace H_fs1 := Aside0.mk (cell_on H_fs1.out hb)
  clear H_i1
  replace HB := Aside0.mk (below_then HB.out HB.out.size hb)
  clear hb
  go_upto_region 16 with fail
  obtain ⟨w30, hw⟩ : ∃ W_, W_ = w29.alloc (.cells #[.int .i64 0, .int .i64 0] 38) := ⟨_, rfl⟩
  rw [← hw]
  have hb : Below w29.heap.size w29 w30 := by rw [hw]; exact below_alloc1 _ _
  have hz : w29.heap.size = w29.heap.size := rfl
  have hs : w30.heap.size = w29.heap.size + 1 := by rw [hw, ← hz]; simp
  replace H_cm := Aside0.mk (H_cm.out.below hb)
  replace H_rows := Aside0.mk (H_rows.out.below hb)
  replace H_own := Aside0.mk (H_own.out.below hb)
  replace H_ky0 := Aside0.mk (cell_on H_ky0.out hb)
  replace H_ky1 := Aside0.mk (cell_on H_ky1.out hb)
  replace H_ky2 := Aside0.mk (cell_on H_ky2.out hb)
  replace H_ky3 := Aside0.mk (cell_on H_ky3.out hb)
  replace H_fs0 := Aside0.mk (cell_on H_fs0.out hb)
  replace H_fs1 := Aside0.mk (cell_on H_fs1.out hb)
  replace HB := Aside0.mk (below_then HB.out HB.out.size hb)
  have H_fq0 := Aside0.mk (⟨by rw [hw, ← hz]; simp only [World.cell?]; rw [World.alloc_heap_new]; rfl, by rw [hs]; omega⟩ : w30.cell? ⟨w29.heap.size, 0, none⟩ = some (.int .i64 0) ∧ w29.heap.size < w30.heap.size)
  have H_fq1 := Aside0.mk (⟨by rw [hw, ← hz]; simp only [World.cell?]; rw [World.alloc_heap_new]; rfl, by rw [hs]; omega⟩ : w30.cell? ⟨w29.heap.size, 1, none⟩ = some (.int .i64 0) ∧ w29.heap.size < w30.heap.size)
  clear hw hb hz
  have HZ := Aside0.mk hs; clear hs
  have x_ky0 := H_ky0.out.1
  have x_ky1 := H_ky1.out.1
  have x_ky2 := H_ky2.out.1
  have x_ky3 := H_ky3.out.1
  go_wp2_with fail
  clear x_ky0 x_ky1 x_ky2 x_ky3
  refine (finish_p H_rows.out H_own.out H_cm.out (Sl.none_ _ _) ex_fin3).mono ?_
  rintro e w31 ⟨rfl, hb⟩
  clear H_cm
  clear H_rows
  clear H_own
  clear H_ky0
  clear H_ky1
  clear H_ky2
  clear H_ky3
  replace H_fs0 := Aside0.mk (cell_on H_fs0.out hb)
  replace H_fs1 := Aside0.mk (cell_on H_fs1.out hb)
  clear H_fq0
  clear H_fq1
  replace HB := Aside0.mk (below_then HB.out HB.out.size hb)
  clear hb
  go_wp2_with fail
  obtain ⟨w32, hw⟩ : ∃ W_, W_ = w31.alloc (.cells #[.int .i64 0, .int .i64 0] 38) := ⟨_, rfl⟩
  rw [← hw]
  have hb : Below w31.heap.size w31 w32 := by rw [hw]; exact below_alloc1 _ _
  have hz : w31.heap.size = w31.heap.size := rfl
  have hs : w32.heap.size = w31.heap.size + 1 := by rw [hw, ← hz]; simp
  replace H_fs0 := Aside0.mk (cell_on H_fs0.out hb)
  replace H_fs1 := Aside0.mk (cell_on H_fs1.out hb)
  replace HB := Aside0.mk (below_then HB.out HB.out.size hb)
  have H_fq0 := Aside0.mk (⟨by rw [hw, ← hz]; simp only [World.cell?]; rw [World.alloc_heap_new]; rfl, by rw [hs]; omega⟩ : w32.cell? ⟨w31.heap.size, 0, none⟩ = some (.int .i64 0) ∧ w31.heap.size < w32.heap.size)
  have H_fq1 := Aside0.mk (⟨by rw [hw, ← hz]; simp only [World.cell?]; rw [World.alloc_heap_new]; rfl, by rw [hs]; omega⟩ : w32.cell? ⟨w31.heap.size, 1, none⟩ = some (.int .i64 0) ∧ w31.heap.size < w32.heap.size)
  clear hw hb hz
  have HZ := Aside0.mk hs; clear hs
  refine (three_p _).mono ?_
  rintro e w33 ⟨Ao, co, Bo, do_, rfl, ho, hp, hb⟩
  replace H_fs0 := Aside0.mk (cell_on H_fs0.out hb)
  replace H_fs1 := Aside0.mk (cell_on H_fs1.out hb)
  clear H_fq0
  clear H_fq1
  replace HB := Aside0.mk (below_then HB.out HB.out.size hb)
  have H_rows := Aside0.mk ho
  have H_own := Aside0.mk hp
  clear hb ho hp
  go_wp2_with fail
  refine (finish_p H_rows.out H_own.out (Sl.none_ _ _) (Sl.none_ _ _) ex_fin4).mono ?_
  rintro e w34 ⟨rfl, hb⟩
  replace H_fs0 := Aside0.mk (cell_on H_fs0.out hb)
  replace H_fs1 := Aside0.mk (cell_on H_fs1.out hb)
  clear H_rows
  clear H_own
  replace HB := Aside0.mk (below_then HB.out HB.out.size hb)
  clear hb
  have x0 := H_fs0.out.1; have x1 := H_fs1.out.1; have x2 := H_fs0.out.2
  go_wp2
  go_ret
  exact ⟨by first | rfl | simp, by first | exact HB.out | exact below_then HB.out HB.out.size (below_alloc1 _ _)⟩
def signatorylaw40_sane.f : Option Bool := some true
theorem signatorylaw40_sane.calls (r : Bool) (w : World) (h : signatorylaw40_sane.f = some r) :
    Calls Try.prog 38 #[] w fun e w' => e = .returned (.bool r) ∧ Below w.heap.size w w' := by
  cases Option.some.inj h
  exact sane40_c w
end Go.Proofs.Ytdbamhckgaoibaa.P
