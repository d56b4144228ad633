/- A part of the proof of DealingEnough: People, and the shares of people, in plain words; DealingEnough holds. -/
import Derived.Test.YtdbamhckgaoibaaZDE8
namespace Go.Proofs.Ytdbamhckgaoibaa.P
open Go.RowKit Go.Proofs.YtdbamhckgaoibaaW.PrintWords Go.Proofs.YtdbamhckgaoibaaW.PrintLast Go.Proofs.YtdbamhckgaoibaaW.PrintMore
set_option linter.unusedVariables false
theorem people_snoc : ∀ {l : List Int} {last n : Int}, peopleOk last l = true → (∀ x ∈ l, x < n) → last < n → 0 ≤ n → n ≤ 63 → peopleOk last (l ++ [n]) = true
  | [], last, n, _, _, h1, h2, h3 => by
    rw [List.nil_append, peopleOk, peopleOk, decide_eq_true h1, decide_eq_true h2, decide_eq_true h3]; rfl
  | m :: l, last, n, h, hx, h1, h2, h3 => by
    unfold peopleOk at h
    simp only [Bool.and_eq_true, decide_eq_true_eq] at h
    rw [List.cons_append, peopleOk, decide_eq_true h.1.1.1, decide_eq_true h.1.1.2, decide_eq_true h.1.2, people_snoc h.2 (fun x hx2 => hx x (List.mem_cons_of_mem _ hx2)) (hx m List.mem_cons_self) h2 h3]; rfl
theorem people_l0 (x : Int) (k : Nat) : ∀ (d j : Nat) (acc : List Int), 64 - j = d → j ≤ 64 → acc.length ≤ j → peopleOk (-1) acc = true → (∀ x ∈ acc, x < (j : Int)) → ∃ who, signatorylaw34_people.l0 (k + d + 1) x acc (j : Int) = some who ∧ peopleOk (-1) who = true := by
  intro d
  induction d with
  | zero =>
    intro j acc hd hj hl hp hx
    refine ⟨acc, ?_, hp⟩
    rw [signatorylaw34_people.l0, if_neg (by omega)]
  | succ d ih =>
    intro j acc hd hj hl hp hx
    have h1 : (j : Int) < 64 := by omega
    have h2 : (0 : Int) ≤ (j : Int) := by omega
    have h3 : acc.length < 17592186044416 := by omega
    rw [signatorylaw34_people.l0, if_pos h1, if_pos h2, wrap_succ (by omega), ← Nat.add_assoc]
    split
    · (try rw [if_pos h3])
      refine ih (j + 1) (acc ++ [(j : Int)]) (by omega) (by omega) (by rw [List.length_append]; exact Nat.succ_le_succ hl) (people_snoc hp hx (by omega) h2 (by omega)) (fun y hy => ?_)
      rcases List.mem_append.1 hy with hy | hy
      · have := hx y hy; omega
      · rw [List.mem_singleton.1 hy]; omega
    · exact ih (j + 1) acc (by omega) (by omega) (by omega) hp (fun y hy => by have := hx y hy; omega)
theorem people_math (x : Int) (k : Nat) (hk : 100 ≤ k) : ∃ who, signatorylaw34_people.f k x = some who ∧ peopleOk (-1) who = true := by
  obtain ⟨k, rfl⟩ : ∃ k', k = k' + 64 + 1 := ⟨k - 65, by omega⟩
  exact people_l0 x k 64 0 [] (by omega) (by omega) (Nat.zero_le _) rfl (fun y hy => by cases hy)
def ofQ (owners who : List Int) (l : List S38) : List S38 := l.filter fun s => who.contains (owners.getD s.f0.toNat 0)
theorem ofQ_shares (rows : List (List Int)) (owners who s : List Int) : ofQ owners who (sharesQ rows s) = pickS rows s (ownIdx owners who rows.length) := by
  unfold ofQ sharesQ pickS ownIdx
  rw [List.filter_map]
  congr 1
theorem of_l1 (l : List S38) (owners who : List Int) (rows : List (List Int)) (acc : List S38) (i : Nat) (hi : i < l.length) (ow : Int) (hw : who.Pairwise (· < ·)) (hn : who.length < 1000000) (ha : acc.length < 1000000) (k : Nat) : ∀ (d j : Nat) (a : List S38), who.length - j = d → j ≤ who.length → a = acc →
    signatoryref34_Of.l1 (k + d + 1) l who a (i : Int) ow (j : Int) rows owners = signatoryref34_Of.l0 k l who (acc ++ if (who.drop j).contains ow = true then [l[i]] else []) (wrap64 ((i : Int) + 1)) rows owners := by
  have key : ∀ (d j : Nat) (a : List S38), who.length - j = d → j ≤ who.length → a.length < 1000001 → (a.length < 1000000 ∨ (who.drop j).contains ow = false) → signatoryref34_Of.l1 (k + d + 1) l who a (i : Int) ow (j : Int) rows owners = signatoryref34_Of.l0 k l who (a ++ if (who.drop j).contains ow = true then [l[i]] else []) (wrap64 ((i : Int) + 1)) rows owners := by
    intro d
    induction d with
    | zero =>
      intro j a hd hj ha2 hc
      obtain rfl : j = who.length := by omega
      rw [signatoryref34_Of.l1, if_neg (by omega), List.drop_length]
      simp
    | succ d ih =>
      intro j a hd hj ha2 hc
      have hlt : j < who.length := by omega
      have e1 : who.getD j 0 = who[j] := by rw [List.getD_eq_getElem?_getD, List.getElem?_eq_getElem hlt]; rfl
      have hdr := List.drop_eq_getElem_cons hlt
      have hx : who[j] = ow → (who.drop (j + 1)).contains ow = false := fun e => by
        rw [Bool.eq_false_iff]
        intro h
        rw [List.contains_iff_mem, List.mem_drop_iff_getElem] at h
        obtain ⟨q, hq, e2⟩ := h
        have := List.pairwise_iff_getElem.1 hw j (j + 1 + q) hlt (by omega) (by omega)
        rw [e, ← e2] at this
        omega
      have b1 : (j : Int) < (who.length : Int) := by omega
      have b2 : (0 : Int) ≤ (j : Int) := by omega
      have b3 : (0 : Int) ≤ (i : Int) := by omega
      have b4 : (i : Int) < (l.length : Int) := by omega
      have b5 : a.length < 8796093022208 := by omega
      rw [signatoryref34_Of.l1, if_pos b1, if_pos b2, rd_nat, e1, wrap_succ (by omega), ← Nat.add_assoc, hdr, List.contains_cons]
      by_cases h : who[j] = ow
      · have hl0 : a.length < 1000000 := by
          rcases hc with hc | hc
          · exact hc
          · rw [hdr, List.contains_cons, h, beq_self_eq_true] at hc; cases hc
        have hf := hx h
        rw [if_pos h, if_pos b3, if_pos b4, if_pos b5, ih (j + 1) _ (by omega) (by omega) (by rw [List.length_append]; exact Nat.succ_lt_succ hl0) (.inr hf), hf, h, beq_self_eq_true, Bool.true_or, if_pos rfl, if_neg (by decide), rdT_nat l i hi]
        simp
      · have hb : (ow == who[j]) = false := beq_eq_false_iff_ne.2 (fun e => h e.symm)
        rw [if_neg h, ih (j + 1) a (by omega) (by omega) ha2 (by
          rcases hc with hc | hc
          · exact .inl hc
          · rw [hdr, List.contains_cons, hb, Bool.false_or] at hc; exact .inr hc), hb, Bool.false_or]
  intro d j a hd hj hae
  subst hae
  exact key d j a hd hj (by omega) (.inl ha)
theorem of_l0 (l : List S38) (owners who : List Int) (rows : List (List Int)) (ho : ∀ s ∈ l, 0 ≤ s.f0 ∧ s.f0 < owners.length) (hw : who.Pairwise (· < ·)) (hn : who.length ≤ 64) (hl : l.length ≤ 100) : ∀ (d i : Nat) (acc : List S38) (k : Nat), l.length - i = d → i ≤ l.length → acc.length ≤ i → 70 * d + 1 ≤ k →
    signatoryref34_Of.l0 k l who acc (i : Int) rows owners = some (acc ++ ofQ owners who (l.drop i)) := by
  intro d
  induction d with
  | zero =>
    intro i acc k hd hi ha hk
    obtain rfl : i = l.length := by omega
    obtain ⟨k, rfl⟩ : ∃ k', k = k' + 1 := ⟨k - 1, by omega⟩
    rw [signatoryref34_Of.l0, if_neg (by omega), List.drop_length]
    unfold ofQ
    rw [List.filter_nil, List.append_nil]
  | succ d ih =>
    intro i acc k hd hi ha hk
    have hlt : i < l.length := by omega
    obtain ⟨h1, h2⟩ := ho _ (List.getElem_mem hlt)
    have b1 : (i : Int) < (l.length : Int) := by omega
    have b2 : (0 : Int) ≤ (i : Int) := by omega
    obtain ⟨k, rfl⟩ : ∃ k', k = k' + who.length + 1 + 1 := ⟨k - who.length - 2, by omega⟩
    have e := of_l1 l owners who rows acc i hlt (owners.getD l[i].f0.toNat 0) hw (by omega) (by omega) k who.length 0 acc (by omega) (by omega) rfl
    have e0 : rd owners l[i].f0 = owners.getD l[i].f0.toNat 0 := rfl
    rw [signatoryref34_Of.l0, if_pos b1, if_pos b2, rdT_nat l i hlt, if_pos h1, if_pos h2, e0]
    refine e.trans ?_
    rw [wrap_succ (by omega), List.drop_zero, ih (i + 1) _ k (by omega) (by omega) (by
      rw [List.length_append]
      split
      · exact Nat.succ_le_succ ha
      · simp only [List.length_nil]; omega) (by omega), List.append_assoc, List.drop_eq_getElem_cons hlt]
    unfold ofQ
    rw [List.filter_cons]
    split <;> simp
theorem of_math {rows : List (List Int)} {owners who s : List Int} (hc : checkP rows owners = 0) (hw : peopleOk (-1) who = true) (k : Nat) (hk : 5000 ≤ k) : signatoryref34_Of.f k rows owners (sharesQ rows s) who = some (pickS rows s (ownIdx owners who rows.length)) := by
  have h64 := (check_ok hc).few
  have hown := (check_ok hc).own
  have hwn : who.length ≤ 64 := by have := people_few hw (Int.le_refl _) (by decide); omega
  have := of_l0 (sharesQ rows s) owners who rows (fun x hx => by
    obtain ⟨i, hi, rfl⟩ := List.mem_map.1 hx
    have := List.mem_range.1 hi
    show 0 ≤ ((i : Nat) : Int) ∧ ((i : Nat) : Int) < owners.length
    omega) (people_lt hw) hwn (by rw [shares_len]; omega) rows.length 0 [] k (by rw [shares_len]; omega) (Nat.zero_le _) (Nat.le_refl _) (by omega)
  rw [List.drop_zero, List.nil_append, ofQ_shares] at this
  exact this
theorem enough_l0 {rows : List (List Int)} {owners : List Int} {s : List Int} (x S : Int) (hn : rows.length < 1000000) (k : Nat) : ∀ d j, rows.length - j = d → j ≤ rows.length →
    signatorylaw34_DealingEnough.l0 (k + d + 1) x S (sharesQ rows s) (sharesQ rows s) (rows.length : Int) (j : Int) rows owners = signatorylaw34_DealingEnough.l0 (k + 1) x S (sharesQ rows s) (sharesQ rows s) (rows.length : Int) (rows.length : Int) rows owners := by
  intro d
  induction d with
  | zero =>
    intro j hd hj
    obtain rfl : j = rows.length := by omega
    rfl
  | succ d ih =>
    intro j hd hj
    have hj1 : j < rows.length := by omega
    have b1 : (j : Int) < (rows.length : Int) := by omega
    have b2 : (0 : Int) ≤ (j : Int) := by omega
    have b3 : (j : Int) < ((sharesQ rows s).length : Int) := by rw [shares_len]; exact b1
    conv => lhs; rw [signatorylaw34_DealingEnough.l0]
    rw [if_pos b1, if_pos b2, if_pos b3, shares_rd1 hj1, if_pos rfl, wrap_succ (by omega), ← Nat.add_assoc]
    exact ih (j + 1) (by omega) (by omega)
theorem dealingEnough_true (rows : List (List Int)) (owners : List Int) (secret : Int) (l : List Int) (some_ : Int) (h1 : (Lit.int .u32 secret).wf = true) (h2 : ∀ x ∈ l, (Lit.int .u32 x).wf = true) :
    signatorylaw34_DealingEnough.f 10000 rows owners secret l some_ = some true := by
  have hs := fieldOf_inQ (word_inQ h1).1 (word_inQ h1).2
  have hr := fun m => randomQ_ok (m := m) (fun x hx => word_inQ (h2 x hx))
  unfold signatorylaw34_DealingEnough.f
  rw [show signatorylaw34_sane.f = some true from rfl, Option.bind_some, if_pos rfl, small_math _ _ _ (by omega), Option.bind_some]
  cases hsm : (decide (rows.length ≤ 16) && decide (checkP rows owners = 0) && decide (colsP rows ≤ 16)) with
  | false => rfl
  | true =>
    rw [Bool.and_eq_true, Bool.and_eq_true, decide_eq_true_eq, decide_eq_true_eq, decide_eq_true_eq] at hsm
    obtain ⟨⟨h16, hc⟩, hcl⟩ := hsm
    have hc1 := cols_pos hc
    have hlen : (randomQ (colsP rows - 1) l).length + 1 = colsP rows := by rw [randomQ_length]; omega
    have hsl : (fieldOf secret :: randomQ (colsP rows - 1) l).length = colsP rows := by rw [List.length_cons, hlen]
    have hd := deal_good hc hs (hr (colsP rows - 1)) hlen
    rw [if_pos rfl, random_math hc1 (by omega) _ (by omega), Option.bind_some]
    refine (congrArg (fun o => Option.bind (some o) _) hd).trans ?_
    rw [Option.bind_some, if_pos rfl, if_pos (by rw [shares_len]), shares_len]
    have e0 := enough_l0 (s := fieldOf secret :: randomQ (colsP rows - 1) l) (owners := owners) some_ (fieldOf secret) (by omega : rows.length < 1000000) (9999 - rows.length) rows.length 0 (by omega) (by omega)
    rw [show 9999 - rows.length + rows.length + 1 = 10000 by omega] at e0
    refine e0.trans ?_
    obtain ⟨who, hw1, hw2⟩ := people_math some_ (9999 - rows.length) (by omega)
    rw [signatorylaw34_DealingEnough.l0, if_neg (by omega), hw1, Option.bind_some]
    have hacc : program_Accepts.f rows owners who = some (accQ rows owners who) := by
      unfold program_Accepts.f progOk
      rw [decide_eq_true hc, hw2]; rfl
    have hrec := rec_own hc hsl who
    rw [hacc, Option.bind_some, of_math hc hw2 _ (by omega), Option.bind_some]
    refine (congrArg (fun o => Option.bind (some o) _) hrec).trans ?_
    rw [Option.bind_some]
    unfold accQ
    rw [if_pos hc, if_pos hw2]
    cases Sig.combine (ownRows rows owners who) (targetP rows) with
    | none => rfl
    | some y =>
      have e : (fieldOf secret :: randomQ (colsP rows - 1) l).getD 0 0 % 1073741789 = fieldOf secret := by
        have h := hs
        unfold inQ at h
        rw [Bool.and_eq_true, decide_eq_true_eq, decide_eq_true_eq] at h
        show fieldOf secret % 1073741789 = fieldOf secret
        omega
      simp only [e, if_true, beq_self_eq_true]
end Go.Proofs.Ytdbamhckgaoibaa.P
