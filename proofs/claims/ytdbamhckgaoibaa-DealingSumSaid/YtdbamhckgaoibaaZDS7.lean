/- A part of the proof of DealingSum: DealingSum holds: sums of dealings are dealings of sums, and are recovered to the sum. -/
import Derived.Test.YtdbamhckgaoibaaZDS6
namespace Go.Proofs.Ytdbamhckgaoibaa.P
open Go.RowKit Go.Proofs.YtdbamhckgaoibaaW.PrintWords Go.Proofs.YtdbamhckgaoibaaW.PrintLast Go.Proofs.YtdbamhckgaoibaaW.PrintMore
def addQ (x y : Int) : Int := (x + y) % 1073741789
theorem zip_getD {a b : List Int} {j : Nat} (h1 : j < a.length) (h2 : j < b.length) : (List.zipWith addQ a b).take j ++ [addQ (a.getD j 0) (b.getD j 0)] = (List.zipWith addQ a b).take (j + 1) := by
  have hl : j < (List.zipWith addQ a b).length := by rw [List.length_zipWith]; omega
  rw [List.take_succ_eq_append_getElem hl, List.getElem_zipWith, List.getD_eq_getElem?_getD, List.getD_eq_getElem?_getD, List.getElem?_eq_getElem h1, List.getElem?_eq_getElem h2]; rfl
theorem sum_l0 (S T : Int) (u v : List Int) (rows : List (List Int)) (owners : List Int) (hl : u.length = v.length) (hn : u.length < 1000000) (k : Nat) : ∀ d j, u.length - j = d → j ≤ u.length →
    signatorylaw34_DealingSum.l0 (k + d + 1) S T u v ((List.zipWith addQ u v).take j) (u.length : Int) (j : Int) rows owners = signatorylaw34_DealingSum.l0 (k + 1) S T u v (List.zipWith addQ u v) (u.length : Int) (u.length : Int) rows owners := by
  intro d
  induction d with
  | zero =>
    intro j hd hj
    obtain rfl : j = u.length := by omega
    rw [List.take_of_length_le (by rw [List.length_zipWith]; omega)]
  | succ d ih =>
    intro j hd hj
    conv => lhs; rw [signatorylaw34_DealingSum.l0]
    rw [if_pos (by omega), if_pos (by omega), if_pos (by omega), if_pos (by omega), rd_nat, rd_nat]
    unfold field_Add_m.f
    rw [Option.bind_some, if_pos (by rw [List.length_take, List.length_zipWith]; omega), wrap_succ (by omega)]
    rw [show (u.getD j 0 + v.getD j 0) % 1073741789 = addQ (u.getD j 0) (v.getD j 0) from rfl, zip_getD (by omega) (by omega), ← Nat.add_assoc]
    exact ih (j + 1) (by omega) (by omega)
theorem dot_zip : ∀ (r a b : List Int), a.length = b.length → Sig.dot r (List.zipWith addQ a b) % 1073741789 = (Sig.dot r a + Sig.dot r b) % 1073741789
  | [], a, b, _ => by simp [Sig.dot_nil_l]
  | x :: r, [], [], _ => by simp [Sig.dot_nil_r]
  | x :: r, y :: a, z :: b, h => by
    have ih := dot_zip r a b (by simpa using h)
    rw [List.zipWith_cons_cons, Sig.dot, Sig.dot, Sig.dot, Int.add_emod, ih, ← Int.add_emod]
    unfold addQ
    rw [Int.add_emod, Sig.mul_emod_r, ← Int.add_emod, Int.mul_add]
    congr 1
    omega
def addS (rows : List (List Int)) (a b : List Int) (i : Nat) : S38 := ⟨(i : Int), addQ (Sig.dot (rows.getD i []) a % 1073741789) (Sig.dot (rows.getD i []) b % 1073741789)⟩
theorem addS_eq (rows : List (List Int)) (a b : List Int) (h : a.length = b.length) (i : Nat) : addS rows a b i = shareQ rows (List.zipWith addQ a b) i := by
  unfold addS shareQ addQ
  rw [← Int.add_emod, ← dot_zip _ _ _ h]; rfl
theorem sum_l1 (S T : Int) (a b : List Int) (cx cy cz : List Int) (sz : List S38) (rows : List (List Int)) (owners : List Int) (hn : rows.length < 1000000) (k : Nat) : ∀ d j, rows.length - j = d → j ≤ rows.length →
    signatorylaw34_DealingSum.l1 (k + d + 1) S T (sharesQ rows a) cx (sharesQ rows b) cy sz cz ((List.range j).map (addS rows a b)) (rows.length : Int) (j : Int) rows owners = signatorylaw34_DealingSum.l2 k S T cx cy sz cz ((List.range rows.length).map (addS rows a b)) (cz.length : Int) 0 rows owners := by
  intro d
  induction d with
  | zero =>
    intro j hd hj
    obtain rfl : j = rows.length := by omega
    rw [signatorylaw34_DealingSum.l1, if_neg (by omega)]
  | succ d ih =>
    intro j hd hj
    have hj1 : j < rows.length := by omega
    rw [signatorylaw34_DealingSum.l1, if_pos (by omega), if_pos (by omega), if_pos (by rw [shares_len]; omega), if_pos (by rw [shares_len]; omega), shares_rd1 hj1, shares_rd1 hj1]
    unfold field_Add_m.f
    rw [Option.bind_some, if_pos (by rw [List.length_map, List.length_range]; omega), wrap_succ (by omega), ← Nat.add_assoc]
    have e : (List.range j).map (addS rows a b) ++ [⟨(j : Int), (Sig.dot (rows.getD j []) a % 1073741789 + Sig.dot (rows.getD j []) b % 1073741789) % 1073741789⟩] = (List.range (j + 1)).map (addS rows a b) := by
      rw [List.range_succ, List.map_append]; rfl
    rw [e]
    exact ih (j + 1) (by omega) (by omega)
theorem commit_getD (s : List Int) {j : Nat} (h : j < s.length) : (s.map commitQ).getD j 0 = commitQ (s.getD j 0) := by
  rw [List.getD_eq_getElem?_getD, List.getElem?_map, List.getElem?_eq_getElem h, List.getD_eq_getElem?_getD, List.getElem?_eq_getElem h]; rfl
theorem sum_l2 (S T : Int) (a b : List Int) (sz both : List S38) (rows : List (List Int)) (owners : List Int) (hl : a.length = b.length) (hn : a.length < 1000000) (k : Nat) : ∀ d j, a.length - j = d → j ≤ a.length →
    signatorylaw34_DealingSum.l2 (k + d + 1) S T (a.map commitQ) (b.map commitQ) sz ((List.zipWith addQ a b).map commitQ) both (a.length : Int) (j : Int) rows owners = signatorylaw34_DealingSum.l2 (k + 1) S T (a.map commitQ) (b.map commitQ) sz ((List.zipWith addQ a b).map commitQ) both (a.length : Int) (a.length : Int) rows owners := by
  intro d
  induction d with
  | zero =>
    intro j hd hj
    obtain rfl : j = a.length := by omega
    rfl
  | succ d ih =>
    intro j hd hj
    have h1 : j < a.length := by omega
    have h2 : j < b.length := by omega
    have h3 : j < (List.zipWith addQ a b).length := by rw [List.length_zipWith]; omega
    have hz : (List.zipWith addQ a b).getD j 0 = addQ (a.getD j 0) (b.getD j 0) := by
      rw [List.getD_eq_getElem?_getD, List.getElem?_eq_getElem h3, List.getD_eq_getElem?_getD, List.getElem?_eq_getElem h1, List.getD_eq_getElem?_getD, List.getElem?_eq_getElem h2]
      simp
    conv => lhs; rw [signatorylaw34_DealingSum.l2]
    rw [if_pos (by omega), if_pos (by omega), if_pos (by rw [List.length_map]; omega), if_pos (by rw [List.length_map]; omega), rd_nat, rd_nat, rd_nat, commit_getD a h1, commit_getD b h2, commit_getD _ h3, commit_mul, Option.bind_some, if_pos rfl, if_pos (by rw [List.length_map]; omega), hz]
    have e : commitQ (a.getD j 0 + b.getD j 0) = commitQ (addQ (a.getD j 0) (b.getD j 0)) := (commitQ_mod _).symm
    rw [if_pos e, wrap_succ (by omega), ← Nat.add_assoc]
    exact ih (j + 1) (by omega) (by omega)
theorem inQ_addQ (x y : Int) : inQ (addQ x y) = true := by
  unfold inQ addQ
  rw [Bool.and_eq_true, decide_eq_true_eq, decide_eq_true_eq]
  omega
theorem zip_outQ (a b : List Int) : (List.zipWith addQ a b).any outQ = false := by
  refine outQ_inF fun x hx => ?_
  obtain ⟨i, hi, rfl⟩ := List.getElem_of_mem hx
  rw [List.getElem_zipWith]
  unfold addQ Sig.InF
  omega
theorem dealingSum_true (rows : List (List Int)) (owners : List Int) (a b : Int) (l m : List Int) (h1 : (Lit.int .u32 a).wf = true) (h2 : (Lit.int .u32 b).wf = true) (h3 : ∀ x ∈ l, (Lit.int .u32 x).wf = true) (h4 : ∀ x ∈ m, (Lit.int .u32 x).wf = true) :
    signatorylaw34_DealingSum.f 6000 rows owners a b l m = some true := by
  have hs := fieldOf_inQ (word_inQ h1).1 (word_inQ h1).2
  have ht := fieldOf_inQ (word_inQ h2).1 (word_inQ h2).2
  unfold signatorylaw34_DealingSum.f
  rw [show signatorylaw34_sane.f = some true from rfl, Option.bind_some, if_pos rfl, small_math _ _ _ (by omega), Option.bind_some]
  cases hsm : (decide (rows.length ≤ 16) && decide (checkP rows owners = 0) && decide (colsP rows ≤ 16)) with
  | false => rfl
  | true =>
    rw [Bool.and_eq_true, Bool.and_eq_true, decide_eq_true_eq, decide_eq_true_eq, decide_eq_true_eq] at hsm
    obtain ⟨⟨h16, hc⟩, hcl⟩ := hsm
    have hc1 := cols_pos hc
    rw [if_pos rfl, random_math hc1 (by omega) _ (by omega), Option.bind_some, random_math hc1 (by omega) _ (by omega), Option.bind_some]
    have hu := randomQ_ok (m := colsP rows - 1) (fun x hx => word_inQ (h3 x hx))
    have hv := randomQ_ok (m := colsP rows - 1) (fun x hx => word_inQ (h4 x hx))
    have hul := randomQ_length (colsP rows - 1) l
    have hvl := randomQ_length (colsP rows - 1) m
    rw [show Int.tmod (wrap64 a) 1073741789 = fieldOf a from rfl, show Int.tmod (wrap64 b) 1073741789 = fieldOf b from rfl]
    generalize randomQ (colsP rows - 1) l = u at *
    generalize randomQ (colsP rows - 1) m = v at *
    generalize fieldOf a = S at *
    generalize fieldOf b = T at *
    have hf := sum_l0 S T u v rows owners (by omega) (by omega) (6000 - u.length - 1) u.length 0 (by omega) (by omega)
    rw [show 6000 - u.length - 1 + u.length + 1 = 6000 by omega, List.take_zero] at hf
    refine hf.trans ?_
    have hd1 := deal_good hc hs hu (by omega)
    have hd2 := deal_good hc ht hv (by omega)
    have hw : (List.zipWith addQ u v).length + 1 = colsP rows := by rw [List.length_zipWith]; omega
    have hd3 := deal_good hc (inQ_addQ S T) (zip_outQ u v) hw
    have ez : addQ S T :: List.zipWith addQ u v = List.zipWith addQ (S :: u) (T :: v) := rfl
    rw [ez] at hd3
    rw [signatorylaw34_DealingSum.l0, if_neg (by omega)]
    refine (congrArg (fun o => Option.bind (some o) _) hd1).trans ?_
    rw [Option.bind_some]
    refine (congrArg (fun o => Option.bind (some o) _) hd2).trans ?_
    rw [Option.bind_some]
    unfold field_Add_m.f
    rw [Option.bind_some]
    refine (congrArg (fun o => Option.bind (some o) _) hd3).trans ?_
    have hlen : (S :: u).length = (T :: v).length := by rw [List.length_cons, List.length_cons]; omega
    have hzl : (List.zipWith addQ (S :: u) (T :: v)).length = (S :: u).length := by rw [List.length_zipWith]; omega
    rw [Option.bind_some, if_pos rfl, if_pos rfl, if_pos rfl, if_pos (by rw [shares_len, shares_len]), if_pos (by rw [shares_len, shares_len]), if_pos (by rw [List.length_map, List.length_map, hzl]), if_pos (by rw [List.length_map, List.length_map, hzl, hlen]), shares_len]
    have hf1 := sum_l1 S T (S :: u) (T :: v) ((S :: u).map commitQ) ((T :: v).map commitQ) ((List.zipWith addQ (S :: u) (T :: v)).map commitQ) (sharesQ rows (List.zipWith addQ (S :: u) (T :: v))) rows owners (by omega) (6000 - u.length - 1 - rows.length - 1) rows.length 0 (by omega) (by omega)
    rw [show 6000 - u.length - 1 - rows.length - 1 + rows.length + 1 = 6000 - u.length - 1 by omega, List.range_zero, List.map_nil] at hf1
    refine (Eq.trans ?_ hf1).trans ?_
    · rfl
    have hboth : (List.range rows.length).map (addS rows (S :: u) (T :: v)) = sharesQ rows (List.zipWith addQ (S :: u) (T :: v)) := List.map_congr_left fun i _ => addS_eq rows _ _ hlen i
    rw [hboth, List.length_map, hzl]
    have hf2 := sum_l2 S T (S :: u) (T :: v) (sharesQ rows (List.zipWith addQ (S :: u) (T :: v))) (sharesQ rows (List.zipWith addQ (S :: u) (T :: v))) rows owners hlen (by rw [List.length_cons]; omega) (6000 - u.length - 1 - rows.length - 1 - (S :: u).length - 1) (S :: u).length 0 (by omega) (by omega)
    rw [show 6000 - u.length - 1 - rows.length - 1 - (S :: u).length - 1 + (S :: u).length + 1 = 6000 - u.length - 1 - rows.length - 1 by rw [List.length_cons]; omega] at hf2
    refine hf2.trans ?_
    rw [signatorylaw34_DealingSum.l2, if_neg (by omega)]
    have hrec := rec_dealt (s := List.zipWith addQ (S :: u) (T :: v)) hc (by rw [hzl, List.length_cons]; omega) (incr_range rows.length) (fun i hi => List.mem_range.1 hi)
    rw [← shares_pick] at hrec
    refine (congrArg (fun o => Option.bind (some o) _) hrec).trans ?_
    rw [Option.bind_some, same_math _ _ (by rw [shares_len]; omega) _ (by rw [shares_len, List.length_cons]; omega), sameS_refl, Option.bind_some, if_pos rfl]
    cases Sig.combine ((List.range rows.length).map fun i => rows.getD i []) (targetP rows) with
    | none => rfl
    | some y =>
      unfold field_Add_m.f
      have e : (List.zipWith addQ (S :: u) (T :: v)).getD 0 0 = (S + T) % 1073741789 := rfl
      simp only [e, if_true, Option.bind_some]
      rw [Int.emod_emod, beq_self_eq_true]
end Go.Proofs.Ytdbamhckgaoibaa.P
