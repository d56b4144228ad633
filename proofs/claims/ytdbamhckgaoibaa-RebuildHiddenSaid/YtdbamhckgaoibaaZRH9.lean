/- A part of the proof of RebuildHidden: RebuildHidden holds. -/
import Derived.Test.YtdbamhckgaoibaaZRH8
namespace Go.Proofs.Ytdbamhckgaoibaa.P
open Go.RowKit Go.Proofs.YtdbamhckgaoibaaW.PrintWords Go.Proofs.YtdbamhckgaoibaaW.PrintLast Go.Proofs.YtdbamhckgaoibaaW.PrintMore
set_option linter.unusedVariables false
theorem allQ_all {l : List Int} (h : allQ l = true) : ∀ x ∈ l, inQ x = true := fun x hx => by
  unfold allQ at h
  rw [Bool.and_eq_true, Bool.not_eq_true', List.any_eq_false] at h
  have := h.2 x hx
  simpa using this
theorem numbers40_bigl (l : List Int) (hn : l.length ≤ 9223372036854775807) (k : Nat) : ∀ d j, l.length - j = d → j ≤ l.length → signatoryref40_Numbers.l0 (k + d + 1) l (j : Int) = some (decide (l.length ≤ 64) && !(l.drop j).any fun x => !inQ x) := by
  intro d
  induction d with
  | zero =>
    intro j hd hj
    obtain rfl : j = l.length := by omega
    rw [signatoryref40_Numbers.l0, if_neg (by omega), List.drop_length]
    congr 1
    rw [Bool.eq_iff_iff]
    simp
    omega
  | succ d ih =>
    intro j hd hj
    have h1 : j < l.length := by omega
    have e1 : l.getD j 0 = l[j] := by rw [List.getD_eq_getElem?_getD, List.getElem?_eq_getElem h1]; rfl
    rw [signatoryref40_Numbers.l0, if_pos (by omega), if_pos (by omega), rd_nat, e1, number40, Option.bind_some, List.drop_eq_getElem_cons h1, List.any_cons]
    cases inQ l[j] with
    | false => simp
    | true =>
      rw [if_pos rfl, wrap_nextB (by omega), ← Nat.add_assoc, ih (j + 1) (by omega) (by omega)]; rfl
theorem numbers40_big (l : List Int) (hn : l.length ≤ 9223372036854775807) (k : Nat) (hk : l.length < k) : signatoryref40_Numbers.f k l = some (allQ l) := by
  unfold signatoryref40_Numbers.f
  obtain ⟨k, rfl⟩ : ∃ k', k = k' + l.length + 1 := ⟨k - l.length - 1, by omega⟩
  exact numbers40_bigl l hn k l.length 0 (by omega) (by omega)
theorem wrap_any {z : Int} (h : -9223372036854775808 ≤ z) (h2 : z ≤ 9223372036854775807) : wrap64 z = z := by unfold wrap64; omega
theorem slice_one (m : List Int) {j : Nat} (h : j < m.length) : (m.take (j + 1)).drop j = [m.getD j 0] := by
  rw [List.drop_take, Nat.add_sub_cancel_left, List.drop_eq_getElem_cons h, List.getD_eq_getElem?_getD, List.getElem?_eq_getElem h]; rfl
theorem hidden_l0 (idx v o masks y : List Int) (hl : y.length = idx.length ∧ v.length = idx.length ∧ o.length = idx.length) (hy : ∀ x ∈ y, inQ x = true) (hv : ∀ x ∈ v, inQ x = true) (ho : ∀ x ∈ o, inQ x = true) (hn : idx.length ≤ 1000) (k : Nat) :
    ∀ (d j : Nat), idx.length - j = d → j ≤ idx.length → signatorylaw40_RebuildHidden.l0 (k + d + 1) idx v o masks y (dotY y v j % 1073741789) (dotY y o j % 1073741789) (idx.length : Int) (j : Int) =
      if dotY y v idx.length % 1073741789 = dotY y o idx.length % 1073741789 then (signatorylaw40_masked.f k (idx.length : Int) masks).bind fun t => signatorylaw40_RebuildHidden.l1 k v o y t 0 idx (idx.length : Int) 0 else some true := by
  intro d
  induction d with
  | zero =>
    intro j hd hj
    obtain rfl : j = idx.length := by omega
    rw [signatorylaw40_RebuildHidden.l0, if_neg (by omega)]
  | succ d ih =>
    intro j hd hj
    have y1 := getQ hy (j := j) (by omega)
    have p1 := prodQ y1 (getQ hv (j := j) (by omega))
    have p2 := prodQ y1 (getQ ho (j := j) (by omega))
    rw [signatorylaw40_RebuildHidden.l0, if_pos (by omega), if_pos (by omega), if_pos (by omega), rd_nat, number40, y1, Option.bind_some, if_pos rfl, if_pos (by omega), if_pos (by omega), rd_nat, rd_nat, wrap_small p1.1 (by omega), wrap_small p2.1 (by omega),
      tm (by omega) (by omega), tm (by omega) (by omega), wrap_succ (by omega), show (dotY y v j % 1073741789 + y.getD j 0 * v.getD j 0) % 1073741789 = dotY y v (j + 1) % 1073741789 by rw [dotY]; omega,
      show (dotY y o j % 1073741789 + y.getD j 0 * o.getD j 0) % 1073741789 = dotY y o (j + 1) % 1073741789 by rw [dotY]; omega, ← Nat.add_assoc]
    exact ih (j + 1) (by omega) (by omega)
def totN (y v o m : List Int) (j : Nat) : Int := dotY y v j + sumN m j - dotY y o j
theorem other_one {a b c : Int} (p1 : 0 ≤ a ∧ a ≤ 1152921504606846976) (p2 : 0 ≤ b ∧ b ≤ 1152921504606846976) (M : 0 ≤ c ∧ c < 1073741789) : Int.tmod (wrap64 (wrap64 ((a + c) % 1073741789 - Int.tmod (wrap64 b) 1073741789) + 1073741789)) 1073741789 = (a + c - b) % 1073741789 := by
  rw [tm p2.1 (by omega), wrap_any (z := (a + c) % 1073741789 - b % 1073741789) (by omega) (by omega), tm (by omega) (by omega)]
  omega
theorem back_one (a b c : Int) : (b + (a + c - b) % 1073741789) % 1073741789 = (a + c) % 1073741789 := by omega
theorem tot_next (y v o m : List Int) (j : Nat) : Int.tmod (wrap64 (totN y v o m j % 1073741789 + (y.getD j 0 * v.getD j 0 + m.getD j 0 - y.getD j 0 * o.getD j 0) % 1073741789)) 1073741789 = totN y v o m (j + 1) % 1073741789 := by
  have e : totN y v o m (j + 1) = totN y v o m j + (y.getD j 0 * v.getD j 0 + m.getD j 0 - y.getD j 0 * o.getD j 0) := by unfold totN; rw [dotY, dotY, sumN]; omega
  rw [e]
  generalize totN y v o m j = a
  generalize y.getD j 0 * v.getD j 0 + m.getD j 0 - y.getD j 0 * o.getD j 0 = b
  rw [tm (by omega) (by omega)]
  omega
theorem hidden_l1 (idx v o y m : List Int) (hl : y.length = idx.length ∧ v.length = idx.length ∧ o.length = idx.length ∧ m.length = idx.length) (hy : ∀ x ∈ y, inQ x = true) (hv : ∀ x ∈ v, inQ x = true) (ho : ∀ x ∈ o, inQ x = true) (hm : ∀ x ∈ m, inQ x = true)
    (hx : ∀ x ∈ idx, 0 ≤ x ∧ x < 64) (hn : idx.length ≤ 1000) (k : Nat) : ∀ (d j : Nat), idx.length - j = d → j ≤ idx.length →
      signatorylaw40_RebuildHidden.l1 (k + d + 1) v o y m (totN y v o m j % 1073741789) idx (idx.length : Int) (j : Int) = some (totN y v o m idx.length % 1073741789 == 0) := by
  intro d
  induction d with
  | zero =>
    intro j hd hj
    obtain rfl : j = idx.length := by omega
    rw [signatorylaw40_RebuildHidden.l1, if_neg (by omega)]
  | succ d ih =>
    intro j hd hj
    have y1 := getQ hy (j := j) (by omega)
    have v1 := getQ hv (j := j) (by omega)
    have o1 := getQ ho (j := j) (by omega)
    have m1 := getQ hm (j := j) (by omega)
    have p1 := prodQ y1 v1
    have p2 := prodQ y1 o1
    have r1 : 0 ≤ idx.getD j 0 ∧ idx.getD j 0 < 64 := by
      rw [List.getD_eq_getElem?_getD, List.getElem?_eq_getElem (show j < idx.length by omega)]; exact hx _ (List.getElem_mem _)
    have M := inQ_of.1 m1
    have b1 : (j : Int) < (idx.length : Int) := by omega
    have b2 : (0 : Int) ≤ (j : Int) := by omega
    have b3 : (j : Int) < (y.length : Int) := by omega
    have b4 : (j : Int) < (v.length : Int) := by omega
    have b5 : (j : Int) ≤ ((j + 1 : Nat) : Int) := by omega
    have b6 : ((j + 1 : Nat) : Int) ≤ (m.length : Int) := by omega
    have b7 : (j : Int) < (o.length : Int) := by omega
    have b8 : j < m.length := by omega
    have i1 := ih (j + 1) (by omega) (by omega)
    have hw : wrap64 ((j : Int) + 1) = ((j + 1 : Nat) : Int) := wrap_succ (by omega)
    have htot := tot_next y v o m j
    have hother := other_one p1 p2 M
    rw [show k + (d + 1) + 1 = k + d + 1 + 1 from rfl, signatorylaw40_RebuildHidden.l1, if_pos b1, if_pos b2, if_pos b1, if_pos b3, if_pos b4, hw, if_pos b5, if_pos b6, Int.toNat_natCast, Int.toNat_natCast, slice_one m b8, rd_nat, rd_nat, rd_nat]
    unfold rebuild_Part.f
    rw [Option.bind_some, part_one y1 r1.1 r1.2 v1 m1, if_pos (show (0 : Int) = 0 from rfl), number40, modQ, Option.bind_some, if_pos (show true = true from rfl), if_pos b7, rd_nat, hother, Option.bind_some, part_one y1 r1.1 r1.2 o1 (modQ _), if_pos (show (0 : Int) = 0 from rfl), if_pos (back_one _ _ _), htot]
    exact i1
theorem rebuildHidden_true (rows : List (List Int)) (owners : List Int) (row : Int) (idx values others masks : List Int) (hb : masks.length ≤ 9223372036854775807) : signatorylaw40_RebuildHidden.f (masks.length + 20000) rows owners row idx values others masks = some true := by
  obtain ⟨K, hK⟩ : ∃ K, K = masks.length + 19998 := ⟨_, rfl⟩
  rw [show masks.length + 20000 = K + 2 by omega]
  have hT : signatorylaw40_RebuildHidden.j0 (K + 2) row idx values others masks true rows owners = some true := by rw [signatorylaw40_RebuildHidden.j0, if_pos rfl]
  unfold signatorylaw40_RebuildHidden.f
  rw [show signatorylaw40_sane.f = some true from rfl, Option.bind_some, if_pos rfl]
  obtain ⟨b, hb1⟩ := few40_some rows owners (K + 2) (by omega)
  rw [hb1, Option.bind_some]
  cases b with
  | false => rw [if_neg (by decide)]; exact hT
  | true =>
  rw [if_pos rfl, refCheck_math _ _ _ (by omega), Option.bind_some]
  by_cases h : checkP rows owners = 0
  · have h64 := (check_ok h).few
    rw [if_pos h, rows40_math rows owners row idx (by omega) _ (by omega), Option.bind_some]
    cases hr : rowsFrom rows.length row (-1) idx with
    | false => rw [if_neg (by decide)]; exact hT
    | true =>
    obtain ⟨g1, g2, g3, g4⟩ := rowsFrom_right (by omega) hr
    have hlen : idx.length ≤ 64 := by have := helpRows_few rows.length row idx; omega
    rw [if_pos rfl]
    by_cases l3 : (values.length : Int) = (idx.length : Int)
    · rw [if_pos l3]
      by_cases l4 : (others.length : Int) = (idx.length : Int)
      · rw [if_pos l4, numbers40_math values (by omega) _ (by omega), Option.bind_some]
        cases hv : allQ values with
        | false => rw [if_neg (by decide)]; exact hT
        | true =>
        rw [if_pos rfl, numbers40_math others (by omega) _ (by omega), Option.bind_some]
        cases ho : allQ others with
        | false => rw [if_neg (by decide)]; exact hT
        | true =>
        rw [if_pos rfl, numbers40_big masks hb _ (by omega), Option.bind_some]
        cases hm : allQ masks with
        | false => exact hT
        | true =>
        rw [Bool.not_true, signatorylaw40_RebuildHidden.j0, if_neg (by decide)]
        unfold rebuild_Plan.f
        rw [Option.bind_some]
        rcases plan_rows h hr with hp | ⟨y, hp, hyl, hyq⟩
        · rw [hp, if_pos (show (0 : Int) = 0 from rfl), signatorylaw40_RebuildHidden.j1]; rfl
        · rw [hp, if_pos (show (0 : Int) = 0 from rfl)]
          show signatorylaw40_RebuildHidden.j1 (K + 1) idx values others masks y 0 false = some true
          rw [signatorylaw40_RebuildHidden.j1, if_neg (by decide), if_pos (by rw [hyl])]
          obtain ⟨k, hk⟩ : ∃ k, K = k + idx.length + 1 := ⟨K - idx.length - 1, by omega⟩
          have e0 := hidden_l0 idx values others masks y ⟨hyl, by omega, by omega⟩ hyq (allQ_all hv) (allQ_all ho) (by omega) k idx.length 0 (by omega) (by omega)
          rw [hk]
          refine Eq.trans e0 ?_
          by_cases he : dotY y values idx.length % 1073741789 = dotY y others idx.length % 1073741789
          · obtain ⟨m, hm1, hm2, hm3, hm4⟩ := masked_math idx.length masks (by omega) (allQ_all hm) k (by omega)
            rw [if_pos he, hm1, Option.bind_some]
            obtain ⟨k2, hk2⟩ : ∃ k2, k = k2 + idx.length + 1 := ⟨k - idx.length - 1, by omega⟩
            have e1 := hidden_l1 idx values others y m ⟨hyl, by omega, by omega, hm2⟩ hyq (allQ_all hv) (allQ_all ho) hm3 (fun x hx => ⟨(g4 x hx).1, by have := (g4 x hx).2; omega⟩) (by omega) k2 idx.length 0 (by omega) (by omega)
            rw [hk2]
            refine Eq.trans e1 ?_
            have : totN y values others m idx.length % 1073741789 = 0 := by unfold totN; omega
            rw [this]; rfl
          · rw [if_neg he]
      · rw [if_neg l4]; exact hT
    · rw [if_neg l3]; exact hT
  · rw [if_neg h]; exact hT
end Go.Proofs.Ytdbamhckgaoibaa.P
