/- A part of the proof of DealingFits: The numbers that the statements of chapter 34 draw, in plain words.; The reference's Check says what program.Check says.; A slice that is only read: its length, and what it reads as; literals.; dealing.Recover: the walk.; The contracts of chapter 34's functions, for slices that are only read.; What comparing lists answers; and examples that the sanity functions ask, reckoned without any inverse but that of 1.; The sanity examples of chapter 34 hold.; The sanity function of chapter 34 returns true.; The calls of signatorylaw34.DealingFits come to what their functions in Lean say.; DealingFits is true, once the sanity examples are.; DealingFits holds: every share that was dealt fits the commitments, and with no other value. -/
import Derived.Test.YtdbamhckgaoibaaZDF5
namespace Go.Proofs.Ytdbamhckgaoibaa.P
open Go.RowKit Go.Proofs.YtdbamhckgaoibaaW.PrintWords Go.Proofs.YtdbamhckgaoibaaW.PrintLast Go.Proofs.YtdbamhckgaoibaaW.PrintMore
def fieldOf (x : Int) : Int := Int.tmod (wrap64 x) 1073741789
theorem random_l0 (l : List Int) (m : Nat) (hm : m < 1000000) (k : Nat) : ∀ d j (acc : List Int), m - j = d → j ≤ m → acc.length ≤ j → signatorylaw34_random.l0 (k + d + 1) l acc (m : Int) (j : Int) = some (acc ++ (List.range' j d).map fun i => if i < l.length then fieldOf (l.getD i 0) else 0) := by
  intro d
  induction d with
  | zero =>
    intro j acc hd hj ha
    rw [signatorylaw34_random.l0, if_neg (by omega)]; simp
  | succ d ih =>
    intro j acc hd hj ha
    rw [signatorylaw34_random.l0, if_pos (by omega), List.range'_succ, List.map_cons]
    by_cases h : j < l.length
    · rw [if_pos (by omega), if_pos (by omega), if_pos (by omega), rd_nat, wrap_succ (by omega), ← Nat.add_assoc, ih (j + 1) _ (by omega) (by omega) (by rw [List.length_append, List.length_singleton]; omega), if_pos h, List.append_assoc]; rfl
    · rw [if_neg (by omega), if_pos (by omega), wrap_succ (by omega), ← Nat.add_assoc, ih (j + 1) _ (by omega) (by omega) (by rw [List.length_append, List.length_singleton]; omega), if_neg h, List.append_assoc]; rfl
theorem fieldOf_inQ {x : Int} (h0 : 0 ≤ x) (h1 : x < 4294967296) : inQ (fieldOf x) = true := by
  have hw : wrap64 x = x := by unfold wrap64; omega
  unfold fieldOf inQ
  rw [hw, Int.tmod_eq_emod_of_nonneg h0, Bool.and_eq_true, decide_eq_true_eq, decide_eq_true_eq]
  omega
def randomQ (m : Nat) (l : List Int) : List Int := (List.range' 0 m).map fun i => if i < l.length then fieldOf (l.getD i 0) else 0
theorem randomQ_length (m : Nat) (l : List Int) : (randomQ m l).length = m := by simp [randomQ]
theorem colsRef_math {rows : List (List Int)} {owners : List Int} : signatoryref34_Columns.f rows owners = some (colsP rows : Int) := by
  unfold signatoryref34_Columns.f colsP
  by_cases h : rows.length = 0
  · rw [if_pos (by omega), if_pos h]; rfl
  · rw [if_neg (by omega), if_neg h, if_pos (by omega), rdL0]
theorem random_math {rows : List (List Int)} {owners : List Int} {l : List Int} (h1 : 1 ≤ colsP rows) (h2 : colsP rows ≤ 64) (k : Nat) (hk : 300 ≤ k) : signatorylaw34_random.f k rows owners l = some (randomQ (colsP rows - 1) l) := by
  unfold signatorylaw34_random.f
  rw [colsRef_math, Option.bind_some]
  have hw : wrap64 ((colsP rows : Int) - 1) = ((colsP rows - 1 : Nat) : Int) := by unfold wrap64; omega
  rw [hw]
  obtain ⟨k, rfl⟩ : ∃ k', k = k' + (colsP rows - 1) + 1 := ⟨k - (colsP rows - 1) - 1, by omega⟩
  have := random_l0 l (colsP rows - 1) (by omega) k (colsP rows - 1) 0 [] (by omega) (by omega) (Nat.le_refl _)
  rw [List.nil_append] at this
  exact this
end Go.Proofs.Ytdbamhckgaoibaa.P
namespace Go.Proofs.Ytdbamhckgaoibaa.P
open Go.RowKit Go.Proofs.YtdbamhckgaoibaaW.PrintWords Go.Proofs.YtdbamhckgaoibaaW.PrintLast Go.Proofs.YtdbamhckgaoibaaW.PrintMore
theorem ref_l2 (rows : List (List Int)) (owners : List Int) (i : Nat) (hi : i < rows.length) (hl : (rows.getD i []).length < 1000000) (hn : rows.length < 1000000) (k : Nat) : ∀ d j, (rows.getD i []).length - j = d → j ≤ (rows.getD i []).length →
    signatoryref23_Check.l2 (k + d + 1) (i : Int) (j : Int) rows owners = if ((rows.getD i []).drop j).any outQ then some 230 else signatoryref23_Check.l1 k ((i + 1 : Nat) : Int) rows owners := by
  intro d
  induction d with
  | zero =>
    intro j hd hj
    obtain rfl : j = (rows.getD i []).length := by omega
    rw [signatoryref23_Check.l2, if_pos (by omega), if_pos (by omega), rd_L1_nat, if_neg (by omega), wrap_succ (by omega), List.drop_length]; rfl
  | succ d ih =>
    intro j hd hj
    have hjr : j < (rows.getD i []).length := by omega
    have e2 : (rows.getD i []).getD j 0 = (rows.getD i [])[j] := by rw [List.getD_eq_getElem?_getD, List.getElem?_eq_getElem hjr]; rfl
    rw [signatoryref23_Check.l2, if_pos (by omega), if_pos (by omega), rd_L1_nat, if_pos (by omega), if_pos (by omega), rd_nat, e2, List.drop_eq_getElem_cons hjr, List.any_cons]
    generalize (rows.getD i [])[j] = x
    by_cases h1 : x < 0
    · rw [if_pos h1, outQ_low h1]; rfl
    · rw [if_neg h1]
      by_cases h2 : x ≥ 1073741789
      · rw [if_pos h2, outQ_high h1, decide_eq_true h2]; rfl
      · rw [if_neg h2, outQ_high h1, decide_eq_false (by omega), Bool.false_or, wrap_succ (by omega), ← Nat.add_assoc]
        exact ih (j + 1) (by omega) (by omega)
theorem ref_l1 (rows : List (List Int)) (owners : List Int) (ho : rows.length = owners.length) (hl : ∀ i, i < rows.length → (rows.getD i []).length ≤ 64) (hn : rows.length < 1000000) : ∀ d i k, rows.length - i = d → i ≤ rows.length → 70 * d + 1 ≤ k →
    signatoryref23_Check.l1 k (i : Int) rows owners = some (if goodFrom rows owners d i then 0 else 230) := by
  intro d
  induction d with
  | zero =>
    intro i k hd hi hk
    obtain ⟨k, rfl⟩ : ∃ k', k = k' + 1 := ⟨k - 1, by omega⟩
    rw [signatoryref23_Check.l1, if_neg (by omega)]; rfl
  | succ d ih =>
    intro i k hd hi hk
    have hil := hl i (by omega)
    obtain ⟨k, rfl⟩ : ∃ k', k = k' + (rows.getD i []).length + 1 + 1 + 1 := ⟨k - (rows.getD i []).length - 3, by omega⟩
    rw [signatoryref23_Check.l1, if_pos (by omega), if_pos (by omega), rd_L1_nat, rdL0, rd_nat, goodFrom]
    unfold goodAt
    by_cases h0 : (rows.getD i []).length = 0
    · have e0 : ((rows.getD i []).length != 0) = false := bne_eq_false_iff_eq.2 h0
      rw [if_pos (by omega), signatoryref23_Check.j2, if_pos rfl, e0]; rfl
    · have e0 : ((rows.getD i []).length != 0) = true := bne_iff_ne.2 h0
      rw [if_neg (by omega), if_pos (by omega), e0]
      by_cases h1 : (rows.getD i []).length = (rows.getD 0 []).length
      · have e1 : ((rows.getD i []).length == (rows.getD 0 []).length) = true := beq_iff_eq.2 h1
        rw [if_pos (by omega), if_pos (by omega), e1]
        have hj := ref_l2 rows owners i (by omega) (by omega) hn k (rows.getD i []).length 0 (by omega) (by omega)
        rw [List.drop_zero, ih (i + 1) k (by omega) (by omega) (by omega)] at hj
        by_cases h2 : owners.getD i 0 < 0
        · rw [if_pos h2, signatoryref23_Check.j2, if_pos rfl, decide_eq_false (show ¬ 0 ≤ owners.getD i 0 by omega)]; rfl
        · rw [if_neg h2, signatoryref23_Check.j2, decide_eq_true (show 0 ≤ owners.getD i 0 by omega)]
          by_cases h3 : owners.getD i 0 ≥ 64
          · rw [decide_eq_true h3, if_pos rfl, decide_eq_false (show ¬ owners.getD i 0 ≤ 63 by omega)]; rfl
          · rw [decide_eq_false h3, if_neg (by decide), decide_eq_true (show owners.getD i 0 ≤ 63 by omega)]
            refine hj.trans ?_
            cases (rows.getD i []).any outQ <;> rfl
      · have e1 : ((rows.getD i []).length == (rows.getD 0 []).length) = false := beq_eq_false_iff_ne.2 h1
        rw [if_neg (by omega), signatoryref23_Check.j2, if_pos rfl, e1]; rfl
theorem ref_l0 (rows : List (List Int)) (owners : List Int) (hn : rows.length < 1000000) (k : Nat) : ∀ d j, rows.length - j = d → j ≤ rows.length →
    signatoryref23_Check.l0 (k + d + 1) (j : Int) rows owners = if (rows.drop j).any isLong then some 2 else if rows.length = owners.length then signatoryref23_Check.l1 k 0 rows owners else some 230 := by
  intro d
  induction d with
  | zero =>
    intro j hd hj
    obtain rfl : j = rows.length := by omega
    rw [signatoryref23_Check.l0, if_neg (by omega), List.drop_length]
    by_cases h : rows.length = owners.length
    · rw [if_pos (by omega), if_neg (by simp), if_pos h]
    · rw [if_neg (by omega), if_neg (by simp), if_neg h]
  | succ d ih =>
    intro j hd hj
    have hjr : j < rows.length := by omega
    have e2 : rows.getD j [] = rows[j] := by rw [List.getD_eq_getElem?_getD, List.getElem?_eq_getElem hjr]; rfl
    rw [signatoryref23_Check.l0, if_pos (by omega), if_pos (by omega), rd_L1_nat, e2, List.drop_eq_getElem_cons hjr, List.any_cons]
    generalize rows[j] = x
    unfold isLong
    by_cases h : 64 < x.length
    · rw [if_pos (by omega), decide_eq_true h]; rfl
    · rw [if_neg (by omega), decide_eq_false h, Bool.false_or, wrap_succ (by omega), ← Nat.add_assoc]
      exact ih (j + 1) (by omega) (by omega)
theorem refCheck_math (rows : List (List Int)) (owners : List Int) (k : Nat) (hk : 5000 ≤ k) : signatoryref23_Check.f k rows owners = some (checkP rows owners) := by
  unfold signatoryref23_Check.f checkP
  by_cases h : 64 < rows.length
  · rw [if_pos (by omega), decide_eq_true h]; rfl
  · rw [if_neg (by omega), decide_eq_false h, Bool.false_or]
    obtain ⟨k, rfl⟩ : ∃ k', k = k' + rows.length + 1 := ⟨k - rows.length - 1, by omega⟩
    have h0 := ref_l0 rows owners (by omega) k rows.length 0 (by omega) (by omega)
    rw [List.drop_zero] at h0
    refine h0.trans ?_
    cases hl : rows.any isLong with
    | true => rfl
    | false =>
      by_cases ho : rows.length = owners.length
      · have hl' : ∀ i, i < rows.length → (rows.getD i []).length ≤ 64 := fun i hi => by
          have := List.any_eq_false.1 hl _ (Sig.getD_mem hi)
          unfold isLong at this
          simp only [decide_eq_true_eq] at this
          omega
        have h1 := ref_l1 rows owners ho hl' (by omega) rows.length 0 k (by omega) (by omega) (by omega)
        rw [if_neg (by decide), if_pos ho, if_neg (by decide), if_pos ho]
        exact h1
      · rw [if_neg (by decide), if_neg ho, if_neg (by decide), if_neg ho]
end Go.Proofs.Ytdbamhckgaoibaa.P
namespace Go.Proofs.Ytdbamhckgaoibaa.P
open Go.RowKit Go.Proofs.YtdbamhckgaoibaaW.PrintWords Go.Proofs.YtdbamhckgaoibaaW.PrintLast Go.Proofs.YtdbamhckgaoibaaW.PrintMore
set_option linter.unusedVariables false
structure Sl {α : Type} (d : Kd α) (w : World) (A : Option Addr) (c : Nat) (xs : List α) : Prop where
  le : xs.length ≤ c
  rd : Kd.C d w A xs.length xs
theorem Sl.below {α : Type} {d : Kd α} {w w' : World} {A : Option Addr} {c : Nat} {xs : List α} (h : Sl d w A c xs) (hb : Below w.heap.size w w') : Sl d w' A c xs := ⟨h.le, Kd.C_below h.rd hb⟩
theorem Sl.alloc {α : Type} {d : Kd α} {w : World} {A : Option Addr} {c : Nat} {xs : List α} (h : Sl d w A c xs) (o : Obj) : Sl d (w.alloc o) A c xs := h.below ((Below.refl _ _).alloc (Nat.le_refl _) o)
theorem Sl.none_ {α : Type} (d : Kd α) (w : World) : Sl d w none 0 [] := ⟨Nat.le_refl _, rfl, Nat.zero_le _, fun h => absurd h (by simp)⟩
theorem Sl.ofR {α : Type} {d : Kd α} {e : Nat} {w : World} {base : Nat} {ok : Nat → Prop} {v : Value} {xs : List α} (h : Kd.R d e w base ok v xs) : ∃ A c, v = .slice A xs.length c ∧ Sl d w A c xs := by
  obtain ⟨A, c, e, h1, h2⟩ := Kd.R_reads h
  exact ⟨A, c, e, h1, h2⟩
theorem Sl.ofN {α : Type} {d : Kd α} {e : Nat} {w : World} {base : Nat} {ok : Nat → Prop} {v : Value} {xs : List α} (h : Kd.N d e w base ok v xs) : ∃ A c, v = .slice A xs.length c ∧ Sl d w A c xs := by
  obtain ⟨A, c, rfl⟩ := Kd.N_slice h
  exact ⟨A, c, rfl, (Kd.N_reads' h).2.1, (Kd.N_reads' h).2.2⟩
theorem Sl.V {α : Type} {d : Kd α} {w : World} {A : Option Addr} {c : Nat} {xs : List α} (h : Sl d w A c xs) (hd : Kd.Heap d) (e base : Nat) : Kd.V d e w base (fun k => k < w.heap.size) (.slice A xs.length c) xs := Kd.V_mk h.le (Kd.C_F hd h.rd)
theorem Sl.lit {α : Type} {d : Kd α} (w : World) (t : TypeId) (xs : List α) (css : List (List Value)) (hl : css.length = xs.length) (hk : ∀ (i : Nat) (x : α) (cs : List Value), xs[i]? = some x → css[i]? = some cs → d.K (w.alloc (.cells css.flatten.toArray t)) x cs) (hm : xs.length ≤ 1000000) :
    Sl d (w.alloc (.cells css.flatten.toArray t)) (some ⟨w.heap.size, 0, none⟩) xs.length xs := by
  refine ⟨Nat.le_refl _, rfl, by omega, fun _ => ⟨_, rfl, fun j p hj => ?_⟩⟩
  have hjl := (List.getElem?_eq_some_iff.1 hj).1
  have hjc : j < css.length := by omega
  refine ⟨css[j], d.K_len (hk j p _ hj (List.getElem?_eq_getElem hjc)), hk j p _ hj (List.getElem?_eq_getElem hjc), fun i u hu => ?_⟩
  have hsz : ∀ cs ∈ css, cs.length = d.sz := fun cs hc => by
    obtain ⟨i, hi, rfl⟩ := List.getElem_of_mem hc
    exact d.K_len (hk i _ _ (List.getElem?_eq_getElem (by omega)) (List.getElem?_eq_getElem hi))
  have key : ∀ (l : List (List Value)) (j : Nat) (hj : j < l.length), (∀ cs ∈ l, cs.length = d.sz) → ∀ i u, l[j][i]? = some u → l.flatten[j * d.sz + i]? = some u := by
    intro l
    induction l with
    | nil => intro j hj; exact absurd hj (Nat.not_lt_zero j)
    | cons a l ih =>
      intro j hj hs i u hu
      have ha := hs a List.mem_cons_self
      rw [List.flatten_cons]
      cases j with
      | zero =>
        have hu : a[i]? = some u := hu
        have hi := (List.getElem?_eq_some_iff.1 hu).1
        rw [Nat.zero_mul, Nat.zero_add, List.getElem?_append_left hi]
        exact hu
      | succ j =>
        rw [List.getElem?_append_right (by rw [ha, Nat.succ_mul]; omega), show (j + 1) * d.sz + i - a.length = j * d.sz + i by rw [ha, Nat.succ_mul]; omega]
        exact ih j (by simpa using hj) (fun cs hc => hs cs (List.mem_cons_of_mem _ hc)) i u hu
  have hf := key css j hjc hsz i u hu
  have hp : Addr.add ⟨w.heap.size, 0, none⟩ (j * d.sz + i) = ⟨w.heap.size, j * d.sz + i, none⟩ := by
    generalize j * d.sz + i = n
    unfold Addr.add
    by_cases h0 : n = 0
    · simp [h0]
    · simp [h0]
  rw [hp]
  simp only [World.cell?]
  rw [World.alloc_heap_new]
  simpa using hf
theorem Sl.ints (w : World) (t : TypeId) (xs : List Int) (hm : xs.length ≤ 1000000) : Sl (Kd.int .i64) (w.alloc (.cells ((xs.map fun x => [Value.int .i64 x]).flatten.toArray) t)) (some ⟨w.heap.size, 0, none⟩) xs.length xs := by
  refine Sl.lit w t xs (xs.map fun x => [Value.int .i64 x]) (by simp) (fun i x cs hx hc => ?_) hm
  rw [List.getElem?_map, hx] at hc
  exact (Option.some.inj hc).symm
theorem Sl.shares (w : World) (t : TypeId) (xs : List S38) (hm : xs.length ≤ 1000000) : Sl k38 (w.alloc (.cells ((xs.map fun x => [Value.int .i64 x.f0, Value.int .i64 x.f1]).flatten.toArray) t)) (some ⟨w.heap.size, 0, none⟩) xs.length xs := by
  refine Sl.lit w t xs (xs.map fun x => [Value.int .i64 x.f0, Value.int .i64 x.f1]) (by simp) (fun i x cs hx hc => ?_) hm
  rw [List.getElem?_map, hx] at hc
  rw [← Option.some.inj hc]
  exact k38_mk _ _
structure SlAt {α : Type} (d : Kd α) (w : World) (v : Value) (xs : List α) : Prop where
  at_ : ∃ A c, v = .slice A xs.length c ∧ Sl d w A c xs
theorem SlAt.mk_ {α : Type} {d : Kd α} {w : World} {A : Option Addr} {c : Nat} {xs : List α} (h : Sl d w A c xs) : SlAt d w (.slice A xs.length c) xs := ⟨A, c, rfl, h⟩
inductive SlsAt {α : Type} (d : Kd α) (w : World) : List Value → List (List α) → Prop where
  | nil : SlsAt d w [] []
  | cons {v : Value} {x : List α} {vs : List Value} {xs : List (List α)} (h : SlAt d w v x) (t : SlsAt d w vs xs) : SlsAt d w (v :: vs) (x :: xs)
theorem SlsAt.get {α : Type} {d : Kd α} {w : World} : ∀ {vs : List Value} {xs : List (List α)}, SlsAt d w vs xs → vs.length = xs.length ∧ ∀ (i : Nat) (v : Value) (x : List α), vs[i]? = some v → xs[i]? = some x → SlAt d w v x
  | _, _, .nil => ⟨rfl, fun i v x h => by simp at h⟩
  | _, _, .cons h t => by
    obtain ⟨h1, h2⟩ := SlsAt.get t
    refine ⟨by simp [h1], fun i v x hv hx => ?_⟩
    cases i with
    | zero =>
      simp only [List.getElem?_cons_zero, Option.some.injEq] at hv hx
      subst hv hx
      exact h
    | succ i => exact h2 i v x (by simpa using hv) (by simpa using hx)
theorem Sl.rows {α : Type} {d : Kd α} (w : World) (t e : TypeId) (vs : List Value) (xs : List (List α)) (h : SlsAt d w vs xs) (hm : xs.length ≤ 1000000) :
    Sl (Kd.slice e d) (w.alloc (.cells ((vs.map fun v => [v]).flatten.toArray) t)) (some ⟨w.heap.size, 0, none⟩) xs.length xs := by
  obtain ⟨h1, h2⟩ := h.get
  refine Sl.lit w t xs (vs.map fun v => [v]) (by simp [h1]) (fun i x cs hx hc => ?_) hm
  rw [List.getElem?_map] at hc
  obtain ⟨v, hv, rfl⟩ := Option.map_eq_some_iff.1 hc
  obtain ⟨A, c, rfl, hs⟩ := (h2 i v x hv hx).at_
  have := hs.alloc (.cells ((vs.map fun v => [v]).flatten.toArray) t)
  exact ⟨A, c, rfl, this.le, this.rd⟩
end Go.Proofs.Ytdbamhckgaoibaa.P
namespace Go.Proofs.Ytdbamhckgaoibaa.P
open Go.RowKit Go.Proofs.YtdbamhckgaoibaaW.PrintWords Go.Proofs.YtdbamhckgaoibaaW.PrintLast Go.Proofs.YtdbamhckgaoibaaW.PrintMore
set_option linter.unusedVariables false
set_option linter.unusedSimpArgs false
theorem mk_target (n : Nat) : (madeCells #[Value.int .i64 0] n).setIfInBounds 0 (.int .i64 1) = (nums .i64 ((List.replicate n 0).set 0 1)).toArray := by
  have hl : (madeCells #[Value.int .i64 0] n).toList = nums .i64 (List.replicate n 0) := by
    apply List.ext_getElem
    · simp [nums, madeCells]
    · intro i h1 h2
      simp [nums, madeCells, Nat.mod_one]
  apply Array.ext'
  rw [Array.toList_setIfInBounds, hl]
  simp [nums, List.map_set]
set_option maxRecDepth 100000 in
set_option maxHeartbeats 4000000 in
theorem recover_bad (A0 : Option Addr) (c0 : Nat) (rows : List (List Int)) (A1 : Option Addr) (c1 : Nat) (owners : List Int) (As : Option Addr) (cs : Nat) (ls : List S38) (w : World)
    (hr0 : Kd.C (Kd.slice 3 (Kd.int .i64)) w A0 rows.length rows) (hc0 : rows.length ≤ c0) (hr1 : Kd.C (Kd.int .i64) w A1 owners.length owners) (hc1 : owners.length ≤ c1) (hk : checkP rows owners ≠ 0) :
    Calls Try.prog 24 #[.agg #[.slice A0 rows.length c0, .slice A1 owners.length c1], .slice As ls.length cs] w fun e w' => e = .returned (.tuple #[.int .i64 0, .bool false, .int .i64 (checkP rows owners)]) ∧ Below w.heap.size w w' := by
  have hb0 : Below w.heap.size w (w.alloc (.cells #[.slice A0 rows.length c0, .slice A1 owners.length c1] 25)) := (Below.refl _ _).alloc (Nat.le_refl _) _
  have HC := Aside0.mk (program_Check.calls 66 A0 c0 rows A1 c1 owners (checkP rows owners) _ (Kd.C_below hr0 hb0) hc0 (Kd.C_below hr1 hb0) hc1 (check_math _ _ _ (Nat.le_refl _)))
  have HB0 := Aside0.mk hb0
  generalize checkP rows owners = e at hk HC ⊢
  have hkb : (e == 0) = false := beq_eq_false_iff_ne.2 hk
  clear hr0 hr1 hc0 hc1 hb0 hk
  go_enter Try.func24, Try.ntmps24
  go_wp2_with (go_at_call 82; refine HC.out.mono ?_; rintro e' w' ⟨rfl, hb⟩; have HB := Aside0.mk (below_then HB0.out (by simp) hb); clear hb HC)
  go_ret3
  exact ⟨rfl, HB.out⟩
set_option maxRecDepth 100000 in
set_option maxHeartbeats 8000000 in
theorem recover_good (A0 : Option Addr) (c0 : Nat) (rows : List (List Int)) (A1 : Option Addr) (c1 : Nat) (owners : List Int) (As : Option Addr) (cs : Nat) (ls : List S38) (w : World)
    (hr0 : Kd.C (Kd.slice 3 (Kd.int .i64)) w A0 rows.length rows) (hc0 : rows.length ≤ c0) (hr1 : Kd.C (Kd.int .i64) w A1 owners.length owners) (hc1 : owners.length ≤ c1) (hrs : Kd.C k38 w As ls.length ls) (hcs : ls.length ≤ cs) (hk : checkP rows owners = 0) :
    Calls Try.prog 24 #[.agg #[.slice A0 rows.length c0, .slice A1 owners.length c1], .slice As ls.length cs] w fun e w' => e = .returned (.tuple #[.int .i64 (recQ rows owners ls).1, .bool (recQ rows owners ls).2.1, .int .i64 (recQ rows owners ls).2.2]) ∧ Below w.heap.size w w' := by
  have hrq : recQ rows owners ls = if sharesOk rows.length (-1) ls then recT rows ls else (0, false, 340) := by unfold recQ; rw [if_pos hk]
  generalize hres : recQ rows owners ls = res at hrq ⊢
  obtain ⟨W0, hW0⟩ : ∃ W0, w.alloc (.cells #[.slice A0 rows.length c0, .slice A1 owners.length c1] 25) = W0 := ⟨_, rfl⟩
  have hb0 : Below w.heap.size w W0 := by rw [← hW0]; exact (Below.refl _ _).alloc (Nat.le_refl _) _
  have hz0 : W0.heap.size = w.heap.size + 1 := by rw [← hW0]; simp
  have p0 : W0.cell? ⟨w.heap.size, 0, none⟩ = some (.slice A0 rows.length c0) := by
    rw [← hW0]; simp only [World.cell?]; rw [World.alloc_heap_new]; rfl
  have p1 : W0.cell? ⟨w.heap.size, 1, none⟩ = some (.slice A1 owners.length c1) := by
    rw [← hW0]; simp only [World.cell?]; rw [World.alloc_heap_new]; rfl
  have HC := Aside0.mk (program_Check.calls 66 A0 c0 rows A1 c1 owners 0 W0 (Kd.C_below hr0 hb0) hc0 (Kd.C_below hr1 hb0) hc1 (hk ▸ check_math _ _ _ (Nat.le_refl _)))
  have HRT := Aside0.mk (fun (W : World) (hb : Below W0.heap.size W0 W) (s : S38) => dealing_right.calls A0 c0 rows A1 c1 owners s.f0 s.f1 (rightS rows.length s) W (Kd.C_below (Kd.C_below hr0 hb0) hb) hc0 (Kd.C_below (Kd.C_below hr1 hb0) hb) hc1 (right_math rows owners s))
  have HRS := Aside0.mk (Kd.C_below hrs hb0)
  have HR0 := Aside0.mk (Kd.C_below hr0 hb0)
  have HR1 := Aside0.mk (Kd.C_below hr1 hb0)
  have HB0 := Aside0.mk hb0
  have HP := Aside0.mk (And.intro p0 p1)
  have HRQ := Aside0.mk hrq
  have HK := Aside0.mk hk
  have HW0 := Aside0.mk hW0
  have HZ0 := Aside0.mk hz0
  have hlen : ls.length ≤ 9223372036854775807 := hrs.2.1
  have q0 := World.block_lt_of_cell? W0 _ p0
  simp only at q0
  clear hr0 hr1 hrs hb0 hrq hk hW0 hz0 hres
  go_enter Try.func24, Try.ntmps24
  go_wp2_with (go_at_call 82; rw [HW0.out]; refine HC.out.mono ?_; rintro e' w1 ⟨rfl, hb⟩; have HB1 := Aside0.mk hb; clear hb HC)
  go_loopg [8, 20] ls.length (fun gk v8 v20 w' => ∃ (j : Nat) (last : Int), j ≤ ls.length ∧ gk = ls.length - j ∧ v20 = .int .i64 (j : Int) ∧ v8 = .int .i64 last ∧ Aside0 (sharesOk rows.length (-1) ls = sharesOk rows.length last (ls.drop j)) ∧ Aside0 (Below W0.heap.size W0 w'))
  case atStart => exact ⟨0, -1, Nat.zero_le _, rfl, rfl, rfl, ⟨rfl⟩, HB1⟩
  case round =>
    obtain ⟨j, last, hj, rfl, rfl, rfl, HS, HB⟩ := hrel
    have r0 := (HB.out.cell (p := ⟨w.heap.size, 0, none⟩) q0).trans HP.out.1
    have r1 := (HB.out.cell (p := ⟨w.heap.size, 1, none⟩) q0).trans HP.out.2
    have q1 : w.heap.size < wr.heap.size := Nat.lt_of_lt_of_le q0 HB.out.size
    by_cases hlt : j < ls.length
    · have d1 : decide ((j : Int) < (ls.length : Int)) = true := decide_eq_true (by omega)
      have d2 : decide (j < ls.length) = true := decide_eq_true hlt
      have d4 : (0 : Int) ≤ (j : Int) := by omega
      obtain ⟨ad, e, x1, x2⟩ := at_T38 HRS.out (j : Int) (by omega) (by omega)
      cases e
      rw [Int.toNat_natCast] at x1 x2
      replace x1 := (HB.out.cell (World.block_lt_of_cell? W0 _ x1)).trans x1
      replace x2 := (HB.out.cell (World.block_lt_of_cell? W0 _ x2)).trans x2
      have hrd : rd_T38 ls (j : Int) = ls[j] := by unfold rd_T38; rw [Int.toNat_natCast, List.getD_eq_getElem?_getD, List.getElem?_eq_getElem hlt]; rfl
      rw [hrd] at x1 x2
      have hdr : ls.drop j = ls[j] :: ls.drop (j + 1) := List.drop_eq_getElem_cons hlt
      have hso : sharesOk rows.length (-1) ls = (rightS rows.length ls[j] && decide (last < ls[j].f0) && sharesOk rows.length ls[j].f0 (ls.drop (j + 1))) := by rw [HS.out, hdr]; rfl
      generalize ls[j] = s at x1 x2 hso hrd
      have HSO := Aside0.mk hso
      obtain ⟨f0, f1⟩ := s
      simp only at x1 x2
      obtain ⟨W2, hW2⟩ : ∃ W2, wr.alloc (.cells #[.int .i64 f0, .int .i64 f1] 38) = W2 := ⟨_, rfl⟩
      have hb2 : Below wr.heap.size wr W2 := by rw [← hW2]; exact (Below.refl _ _).alloc (Nat.le_refl _) _
      have HB2 := Aside0.mk (below_then HB.out HB.out.size hb2)
      have HRC := Aside0.mk (HRT.out W2 HB2.out ⟨f0, f1⟩)
      have HW2 := Aside0.mk hW2
      have n0 : W2.cell? ⟨wr.heap.size, 0, none⟩ = some (.int .i64 f0) := by rw [← hW2]; simp only [World.cell?]; rw [World.alloc_heap_new]; rfl
      have n1 : W2.cell? ⟨wr.heap.size, 1, none⟩ = some (.int .i64 f1) := by rw [← hW2]; simp only [World.cell?]; rw [World.alloc_heap_new]; rfl
      have n2 : wr.heap.size < W2.heap.size := by rw [← hW2]; simp
      have HN := Aside0.mk (And.intro n0 n2)
      clear hso hrd hdr hW2 hb2 n0 n1 n2
      cases hrb : rightS rows.length ⟨f0, f1⟩ with
      | false =>
        rw [hrb] at HRC
        have HF : Aside0 (sharesOk rows.length (-1) ls = false) := ⟨by rw [HSO.out, hrb]; rfl⟩
        clear hrb
        go_wp2_with (go_at_call 91; rw [HW2.out]; refine HRC.out.mono ?_; rintro e w3 ⟨rfl, hb3⟩; have HB3 := Aside0.mk (below_then HB2.out HB2.out.size hb3); have n0 := (hb3.cell (p := ⟨wr.heap.size, 0, none⟩) HN.out.2).trans HN.out.1; clear hb3 HRC)
        go_ret3
        refine ⟨?_, HB0.out.trans (HB3.out.mono HB0.out.size)⟩
        rw [HRQ.out, HF.out]; rfl
      | true =>
        rw [hrb] at HRC
        by_cases hle : f0 ≤ last
        · have hlb : decide (f0 ≤ last) = true := decide_eq_true hle
          have HF : Aside0 (sharesOk rows.length (-1) ls = false) := ⟨by rw [HSO.out, decide_eq_false (show ¬ last < f0 by omega), Bool.and_false, Bool.false_and]⟩
          clear hrb hle
          go_wp2_with (go_at_call 91; rw [HW2.out]; refine HRC.out.mono ?_; rintro e w3 ⟨rfl, hb3⟩; have HB3 := Aside0.mk (below_then HB2.out HB2.out.size hb3); have n0 := (hb3.cell (p := ⟨wr.heap.size, 0, none⟩) HN.out.2).trans HN.out.1; clear hb3 HRC)
          go_ret3
          refine ⟨?_, HB0.out.trans (HB3.out.mono HB0.out.size)⟩
          rw [HRQ.out, HF.out]; rfl
        · have hlb : decide (f0 ≤ last) = false := decide_eq_false hle
          have HF : Aside0 (sharesOk rows.length (-1) ls = sharesOk rows.length f0 (ls.drop (j + 1))) := ⟨by rw [HSO.out, hrb, decide_eq_true (show last < f0 by omega)]; rfl⟩
          clear hrb hle
          go_wp2_with (go_at_call 91; rw [HW2.out]; refine HRC.out.mono ?_; rintro e w3 ⟨rfl, hb3⟩; have HB3 := Aside0.mk (below_then HB2.out HB2.out.size hb3); have n0 := (hb3.cell (p := ⟨wr.heap.size, 0, none⟩) HN.out.2).trans HN.out.1; clear hb3 HRC)
          go_roundg (ls.length - (j + 1))
          case measure => omega
          case rel => exact ⟨j + 1, f0, by omega, rfl, by first | rfl | rw [wrap_nextB (by omega)], rfl, HF, HB3⟩
    · obtain rfl : j = ls.length := by omega
      have d1 : decide ((ls.length : Int) < (ls.length : Int)) = false := decide_eq_false (by omega)
      have hso : sharesOk rows.length (-1) ls = true := by rw [HS.out, List.drop_length]; rfl
      have hrec : res = recT rows ls := by rw [HRQ.out, hso]; rfl
      obtain ⟨hk1, hk2, hk3, hk4⟩ := combOk_rec HK.out hso
      have hcol0 : 0 < colsP rows := by rw [targetP_length] at hk3; exact hk3
      have hcol1 : colsP rows ≤ 64 := by rw [targetP_length] at hk4; exact hk4
      have HCO := Aside0.mk (fun (W : World) (hb : Below W0.heap.size W0 W) => dealing_columns.calls A0 c0 rows A1 c1 owners (colsP rows : Int) W (Kd.C_below HR0.out hb) hc0 (Kd.C_below HR1.out hb) hc1 cols_math)
      have HK1 := Aside0.mk hk1
      have HK2 := Aside0.mk hk2
      have HK3 := Aside0.mk hk3
      have HK4 := Aside0.mk hk4
      have HREC := Aside0.mk hrec
      have HSO := Aside0.mk hso
      have htl := targetP_length rows
      have htp : targetP rows = (List.replicate (colsP rows) 0).set 0 1 := rfl
      have HTL := Aside0.mk htl
      have HTP := Aside0.mk htp
      have HRW := Aside0.mk (show (rowsOf rows ls).length = ls.length from List.length_map _)
      generalize hn : colsP rows = n at HCO hcol0 hcol1 HTL HTP
      have hmk := print_make (P := Try.prog) 23 3 .i64 8 (by kernel_rfl) (by kernel_rfl) (by decide) n (by omega)
      have hm0 : (madeCells #[Value.int .i64 0] n)[0]? = some (.int .i64 0) := by simp [madeCells, hcol0]
      clear hk1 hk2 hk3 hk4 hrec hso htl htp hn
      go_wp2_with (go_at_call 84; refine (HCO.out _ HB.out).mono ?_; rintro e w3 ⟨rfl, hb3⟩; have HB3 := Aside0.mk (below_then HB.out HB.out.size hb3); have r0 := (hb3.cell (p := ⟨w.heap.size, 0, none⟩) q1).trans r0; have r1 := (hb3.cell (p := ⟨w.heap.size, 1, none⟩) q1).trans r1; have q3 : w.heap.size < w3.heap.size := Nat.lt_of_lt_of_le q1 hb3.size; clear hb3)
      have hcells := mk_target n
      rw [← HTP.out] at hcells
      rw [hcells]
      obtain ⟨W4, hW4⟩ : ∃ W4, w3.alloc (.cells (nums .i64 (targetP rows)).toArray 3) = W4 := ⟨_, rfl⟩
      rw [hW4]
      have ho4 : W4.ownsRow w3.heap.size 3 1 (.slice (some ⟨w3.heap.size, 0, none⟩) (targetP rows).length (targetP rows).length) (targetP rows).length (nums .i64 (targetP rows)) := by
        rw [← hW4]; exact own_lit w3 w3.heap.size 3 .i64 (targetP rows) (Nat.le_refl _) (by have := HK4.out; omega)
      have hb4 : Below w3.heap.size w3 W4 := by rw [← hW4]; exact (Below.refl _ _).alloc (Nat.le_refl _) _
      have HB4 := Aside0.mk (below_then HB3.out HB3.out.size hb4)
      obtain ⟨A4, c4, e4, hc4, hC4⟩ := Kd.R_reads (R_of_owns (ok := fun _ => True) ho4 (fun _ _ => trivial))
      injection e4 with e4 _ e5
      subst e4 e5
      have HT4 := Aside0.mk hC4
      have r0' := (hb4.cell (p := ⟨w.heap.size, 0, none⟩) q3).trans r0
      have q4 := Nat.lt_of_lt_of_le q3 hb4.size
      have HLN := Aside0.mk (show (targetP rows).length = n from HTL.out)
      clear hcells hW4 ho4 hb4 hC4 hc4 r0 r1 hmk hm0 HCO
      refine (rows_c _ _ _ _ _ _ _ _ _ _).mono ?_
      rintro e w5 ⟨rfl, hw5⟩
      have hb5 : Below W4.heap.size W4 w5 := by rw [hw5]; exact ((Below.refl _ _).alloc (Nat.le_refl _) _).alloc (by simp) _
      have g1 : w5.cell? ⟨W4.heap.size + 1, 0, none⟩ = some (.slice As ls.length cs) := by
        rw [hw5]
        simp
      have g2 : w5.cell? ⟨W4.heap.size, 0, none⟩ = some (.slice A0 rows.length c0) := by
        rw [hw5]
        have h1 : (W4.alloc (.cells #[.slice A0 rows.length c0, .slice A1 owners.length c1] 25)).cell? ⟨W4.heap.size, 0, none⟩ = some (.slice A0 rows.length c0) := by
          simp only [World.cell?]; rw [World.alloc_heap_new]; rfl
        exact (((Below.refl _ (W4.alloc (.cells #[.slice A0 rows.length c0, .slice A1 owners.length c1] 25))).alloc (Nat.le_refl _) (.cells #[.slice As ls.length cs] 26)).cell (p := ⟨W4.heap.size, 0, none⟩) (by simp)).trans h1
      have HB5 := Aside0.mk (below_then HB4.out HB4.out.size hb5)
      have HB45 := Aside0.mk hb5
      have hall := sharesOk_all ls _ HSO.out
      have hin : ∀ s ∈ ls, 0 ≤ s.f0 ∧ s.f0 < (rows.length : Int) := fun s hx => by
        have := hall s hx
        simp only [rightS, Bool.and_eq_true, decide_eq_true_eq] at this
        exact this.1
      have hadr : 0 < ls.length → A0 = some (A0.getD ⟨0, 0, none⟩) := fun h => by
        obtain ⟨h1, h2⟩ := hin _ (List.getElem_mem h)
        obtain ⟨ad, _, _, e, _⟩ := at_L1 HR0.out ls[0].f0 h1 h2
        rw [e]; rfl
      have HIT := Aside0.mk (rows1_it w5 (W4.heap.size + 1) W4.heap.size As cs ls A0 (A0.getD ⟨0, 0, none⟩) c0 rows g1 g2 hadr (Kd.C_below HRS.out HB5.out) (Kd.C_below HR0.out HB5.out) hin)
      have HGE := Aside0.mk (hb5.size)
      obtain ⟨yv, hyv⟩ : ∃ yv, yv = ls.map fun s => (w5.cell? ((A0.getD ⟨0, 0, none⟩).add s.f0.toNat)).getD undef := ⟨_, rfl⟩
      rw [← hyv] at HIT
      have hyat : ∀ i, i < (rowsOf rows ls).length → ∃ A c, yv[i]? = some (.slice A ((rowsOf rows ls).getD i []).length c) ∧ ((rowsOf rows ls).getD i []).length ≤ c ∧ Kd.C (Kd.int .i64) w5 A ((rowsOf rows ls).getD i []).length ((rowsOf rows ls).getD i []) := fun i hi => by
        rw [HRW.out] at hi
        obtain ⟨h1, h2⟩ := hin _ (List.getElem_mem hi)
        obtain ⟨ad, A, c, e, x1, x2, x3⟩ := at_L1 (Kd.C_below HR0.out HB5.out) ls[i].f0 h1 h2
        have er : (rowsOf rows ls).getD i [] = rd_L1 rows ls[i].f0 := by
          unfold rowsOf rd_L1
          rw [List.getD_eq_getElem?_getD, List.getElem?_map, List.getElem?_eq_getElem hi]; rfl
        rw [er]
        refine ⟨A, c, ?_, x2, x3⟩
        rw [hyv, List.getElem?_map, List.getElem?_eq_getElem hi]
        rw [show A0.getD ⟨0, 0, none⟩ = ad from by rw [e]; rfl]
        simp [x1]
      have hyl : yv.length = ls.length := by rw [hyv, List.length_map]
      have hysl : ∀ v ∈ yv, ∃ A n c, v = Value.slice A n c := fun v hv => by
        obtain ⟨i, hi, rfl⟩ := List.getElem_of_mem hv
        obtain ⟨A, c, h1, _⟩ := hyat i (by rw [HRW.out, ← hyl]; exact hi)
        rw [List.getElem?_eq_getElem hi] at h1
        injection h1 with h1
        exact ⟨A, _, c, h1⟩
      have hl64 : yv.length ≤ 64 := by have := HK2.out; rw [HRW.out] at this; omega
      have HCL := Aside0.mk (collect_c (g := 171) (fun args w => enters_ Try.func171 (by kernel_rfl) rfl args w) HIT.out hysl (by omega))
      have HYA := Aside0.mk hyat
      have HYL := Aside0.mk hyl
      clear hw5 hb5 g1 g2 hall hin hadr hyv hyat hysl hyl hl64 HIT r0'
      go_wp2_with fail
      refine HCL.out.mono ?_
      rintro e w6 ⟨v6, rfl, ho6, hb6⟩
      have HB6 := Aside0.mk (below_then HB5.out HB5.out.size hb6)
      obtain ⟨A6, c6, rfl, hc6, hC6⟩ := C_of_own ho6 (HYL.out.trans HRW.out.symm) (by have := HK2.out; omega) (fun i hi => by
        obtain ⟨A, c, x1, x2, x3⟩ := HYA.out i hi
        exact ⟨A, c, x1, x2, Kd.C_below x3 hb6⟩)
      have hC4' := Kd.C_below (Kd.C_below HT4.out HB45.out) hb6
      have HCB := combine_c A6 c6 (rowsOf rows ls) (some ⟨w3.heap.size, 0, none⟩) (targetP rows).length (targetP rows) w6 hC6 hc6 hC4' (Nat.le_refl _) HK1.out HK2.out HK3.out HK4.out
      rw [HLN.out] at HCB
      unfold CombPost at HCB
      have hrec := HREC.out
      unfold recT at hrec
      have HCB := Aside0.mk HCB
      clear ho6 hb6 hC6 hC4' HCL HYA HYL
      cases hcmb : Sig.combine (rowsOf rows ls) (targetP rows) with
      | none =>
        rw [hcmb] at hrec HCB
        have HREC2 := Aside0.mk hrec
        clear hrec hcmb
        go_wp2_with fail
        refine HCB.out.mono ?_
        rintro e w7 ⟨v7, rfl, hR7, hb7⟩
        obtain ⟨A7, c7, rfl, _, _⟩ := Kd.R_reads hR7
        have HB7 := Aside0.mk (below_then HB6.out HB6.out.size hb7)
        clear hR7 hb7 HCB
        go_wp2
        go_ret3
        refine ⟨by rw [HREC2.out]; rfl, ?_⟩
        have h7 := HB0.out.trans (HB7.out.mono HB0.out.size)
        exact h7.alloc h7.size _
      | some y =>
        rw [hcmb] at hrec HCB
        have hyl := Sig.combine_length hcmb
        rw [HRW.out] at hyl
        have HREC2 := Aside0.mk hrec
        have HYL2 := Aside0.mk hyl
        clear hrec hcmb hyl
        go_wp2_with fail
        refine HCB.out.mono ?_
        rintro e w7 ⟨v7, rfl, hR7, hb7⟩
        obtain ⟨A7, c7, rfl, _, hC7⟩ := Kd.R_reads hR7
        have HB7 := Aside0.mk (below_then HB6.out HB6.out.size hb7)
        obtain ⟨W8, hW8⟩ : ∃ W8, w7.alloc (.cells #[.slice A7 y.length c7] 23) = W8 := ⟨_, rfl⟩
        have hb8 : Below w7.heap.size w7 W8 := by rw [← hW8]; exact (Below.refl _ _).alloc (Nat.le_refl _) _
        have hx8 : Bx W8 w7.heap.size (.slice A7 y.length c7) := by rw [← hW8]; exact Bx.new _ _ _
        have HB8 := Aside0.mk (below_then HB7.out HB7.out.size hb8)
        have HC8 := Aside0.mk (Kd.C_below hC7 hb8)
        have HX8 := Aside0.mk hx8
        have HW8 := Aside0.mk hW8
        have HSM := Aside0.mk (sumShare_c (g := 96) (fun args w => enters_ Try.func96 (by kernel_rfl) rfl args w) ⟨w7.heap.size, 0, none⟩ (fun i => y.getD i 0 * (rd_T38 ls (i : Int)).f1 % 1073741789) As cs ls W8 (Kd.C_below HRS.out HB8.out) (fun i W hi hW =>
          recover1_c w7.heap.size A7 c7 y i (rd_T38 ls (i : Int)).f0 (rd_T38 ls (i : Int)).f1 W (HX8.out.below hW).1 (Kd.C_below HC8.out hW) (by rw [HYL2.out]; exact hi)))
        have hmf : ∀ (fn : Fn) (first cap : Array Value) (w : World), (Instr.makeFunc fn first cap).run Try.prog w = .ok (.func fn first cap) w := fun _ _ _ _ => rfl
        clear hR7 hb7 hC7 HCB hW8 hb8 hx8
        go_wp2_with (go_at_call 95; rw [HW8.out]; refine HSM.out.mono ?_; rintro e w9 ⟨rfl, hb9⟩; have HB9 := Aside0.mk (below_then HB8.out HB8.out.size hb9); clear hb9)
        go_ret3
        refine ⟨by rw [HREC2.out]; rfl, ?_⟩
        exact HB0.out.trans (HB9.out.mono HB0.out.size)
def dealing_Recover.f (l0_0 : List (List Int)) (l0_1 : List Int) (l1 : List S38) : Option (Int × Bool × Int) := some (recQ l0_0 l0_1 l1)
theorem dealing_Recover.calls (A0_0 : Option Addr) (c0_0 : Nat) (l0_0 : List (List Int)) (A0_1 : Option Addr) (c0_1 : Nat) (l0_1 : List Int) (A1 : Option Addr) (c1 : Nat) (l1 : List S38) (r1 : Int) (r2 : Bool) (r3 : Int) (w : World) (hr0_0 : Kd.C (Kd.slice 3 (Kd.int .i64)) w A0_0 l0_0.length l0_0) (hc0_0 : l0_0.length ≤ c0_0) (hr0_1 : Kd.C (Kd.int .i64) w A0_1 l0_1.length l0_1) (hc0_1 : l0_1.length ≤ c0_1) (hr1 : Kd.C k38 w A1 l1.length l1) (hc1 : l1.length ≤ c1) (h : dealing_Recover.f l0_0 l0_1 l1 = some (r1, r2, r3)) :
    Calls Try.prog 24 #[.agg #[.slice A0_0 l0_0.length c0_0, .slice A0_1 l0_1.length c0_1], .slice A1 l1.length c1] w fun e w' => e = .returned (.tuple #[.int .i64 r1, .bool r2, .int .i64 r3]) ∧ Below w.heap.size w w' := by
  have h : recQ l0_0 l0_1 l1 = (r1, r2, r3) := Option.some.inj h
  by_cases hk : checkP l0_0 l0_1 = 0
  · have := recover_good A0_0 c0_0 l0_0 A0_1 c0_1 l0_1 A1 c1 l1 w hr0_0 hc0_0 hr0_1 hc0_1 hr1 hc1 hk
    rw [h] at this
    exact this
  · have := recover_bad A0_0 c0_0 l0_0 A0_1 c0_1 l0_1 A1 c1 l1 w hr0_0 hc0_0 hr0_1 hc0_1 hk
    unfold recQ at h
    rw [if_neg hk] at h
    cases h
    exact this
end Go.Proofs.Ytdbamhckgaoibaa.P
namespace Go.Proofs.Ytdbamhckgaoibaa.P
open Go.RowKit Go.Proofs.YtdbamhckgaoibaaW.PrintWords Go.Proofs.YtdbamhckgaoibaaW.PrintLast Go.Proofs.YtdbamhckgaoibaaW.PrintMore
theorem deal_p (k : Nat) {A0 A1 A2 : Option Addr} {c0 c1 c2 : Nat} {rows : List (List Int)} {owners : List Int} {secret : Int} {random : List Int} {sh : List S38} {cm : List Int} {e : Int} {W : World} (h0 : Sl (Kd.slice 3 (Kd.int .i64)) W A0 c0 rows) (h1 : Sl (Kd.int .i64) W A1 c1 owners) (h2 : Sl (Kd.int .i64) W A2 c2 random)
    (h : dealing_Deal.f k rows owners secret random = some (sh, cm, e)) :
    Calls Try.prog 22 #[.agg #[.slice A0 rows.length c0, .slice A1 owners.length c1], .int .i64 secret, .slice A2 random.length c2] W fun e' w' => ∃ B0 d0 B1 d1, e' = .returned (.tuple #[.slice B0 sh.length d0, .slice B1 cm.length d1, .int .i64 e]) ∧ Sl k38 w' B0 d0 sh ∧ Sl (Kd.int .i64) w' B1 d1 cm ∧ Below W.heap.size W w' := by
  refine (dealing_Deal.calls k A0 c0 rows A1 c1 owners secret _ A2 c2 random sh cm e W h0.rd h0.le h1.rd h1.le (h2.V (Kd.heap_int .i64) _ _) h).mono ?_
  rintro e' w' ⟨v0, v1, rfl, g0, g1, hb⟩
  obtain ⟨B0, d0, rfl, s0⟩ := Sl.ofR g0
  obtain ⟨B1, d1, rfl, s1⟩ := Sl.ofR g1
  exact ⟨B0, d0, B1, d1, rfl, s0, s1, hb⟩
theorem recover_p {A0 A1 A2 : Option Addr} {c0 c1 c2 : Nat} {rows : List (List Int)} {owners : List Int} {l : List S38} {x : Int} {ok : Bool} {e : Int} {W : World} (h0 : Sl (Kd.slice 3 (Kd.int .i64)) W A0 c0 rows) (h1 : Sl (Kd.int .i64) W A1 c1 owners) (h2 : Sl k38 W A2 c2 l)
    (h : dealing_Recover.f rows owners l = some (x, ok, e)) :
    Calls Try.prog 24 #[.agg #[.slice A0 rows.length c0, .slice A1 owners.length c1], .slice A2 l.length c2] W fun e' w' => e' = .returned (.tuple #[.int .i64 x, .bool ok, .int .i64 e]) ∧ Below W.heap.size W w' :=
  dealing_Recover.calls A0 c0 rows A1 c1 owners A2 c2 l x ok e W h0.rd h0.le h1.rd h1.le h2.rd h2.le h
theorem fits_p (k : Nat) {A0 A1 A2 : Option Addr} {c0 c1 c2 : Nat} {rows : List (List Int)} {owners : List Int} {cm : List Int} {row v : Int} {ok : Bool} {e : Int} {W : World} (h0 : Sl (Kd.slice 3 (Kd.int .i64)) W A0 c0 rows) (h1 : Sl (Kd.int .i64) W A1 c1 owners) (h2 : Sl (Kd.int .i64) W A2 c2 cm)
    (h : dealing_Fits.f k rows owners cm row v = some (ok, e)) :
    Calls Try.prog 30 #[.agg #[.slice A0 rows.length c0, .slice A1 owners.length c1], .slice A2 cm.length c2, .agg #[.int .i64 row, .int .i64 v]] W fun e' w' => e' = .returned (.tuple #[.bool ok, .int .i64 e]) ∧ Below W.heap.size W w' :=
  dealing_Fits.calls k A0 c0 rows A1 c1 owners A2 c2 cm row v ok e W h0.rd h0.le h1.rd h1.le h2.rd h2.le h
theorem public_p (k : Nat) {A0 A1 A2 : Option Addr} {c0 c1 c2 : Nat} {rows : List (List Int)} {owners : List Int} {cm : List Int} {row : Int} {x e : Int} {W : World} (h0 : Sl (Kd.slice 3 (Kd.int .i64)) W A0 c0 rows) (h1 : Sl (Kd.int .i64) W A1 c1 owners) (h2 : Sl (Kd.int .i64) W A2 c2 cm)
    (h : dealing_Public.f k rows owners cm row = some (x, e)) :
    Calls Try.prog 28 #[.agg #[.slice A0 rows.length c0, .slice A1 owners.length c1], .slice A2 cm.length c2, .int .i64 row] W fun e' w' => e' = .returned (.tuple #[.int .i64 x, .int .i64 e]) ∧ Below W.heap.size W w' :=
  dealing_Public.calls k A0 c0 rows A1 c1 owners A2 c2 cm row x e W h0.rd h0.le h1.rd h1.le h2.rd h2.le h
end Go.Proofs.Ytdbamhckgaoibaa.P
namespace Go.Proofs.Ytdbamhckgaoibaa.P
open Go.RowKit Go.Proofs.YtdbamhckgaoibaaW.PrintWords Go.Proofs.YtdbamhckgaoibaaW.PrintLast Go.Proofs.YtdbamhckgaoibaaW.PrintMore
theorem finv_one : Sig.finv 1 = 1 := by unfold Sig.finv; rw [Int.one_pow]; rfl
def pivotG (g : Int → Int) (t : List (List Int)) (r k c : Nat) : List (List Int) :=
  let own := Sig.times (t.getD k []) (g (Sig.ent t k c))
  (((t.set k (t.getD r [])).map fun row => Sig.less row own (row.getD c 0))).set r own
def stepG (g : Int → Int) (st : List (List Int) × List Nat) (c : Nat) : List (List Int) × List Nat :=
  if Sig.find st.1 c st.2.length < st.1.length then (pivotG g st.1 st.2.length (Sig.find st.1 c st.2.length) c, st.2 ++ [c]) else st
def reduceG (g : Int → Int) (t : List (List Int)) (many : Nat) : List (List Int) × List Nat := (List.range many).foldl (stepG g) (t, [])
def combineG (g : Int → Int) (rows : List (List Int)) (target : List Int) : Option (List Int) :=
  if Sig.fits (reduceG g (Sig.turned rows target) rows.length).1 (reduceG g (Sig.turned rows target) rows.length).2.length rows.length then
    some (Sig.combY (reduceG g (Sig.turned rows target) rows.length).1 (reduceG g (Sig.turned rows target) rows.length).2 rows.length) else none
def inv1 (x : Int) : Int := if x = 1 then 1 else Sig.finv x
theorem inv1_eq : inv1 = Sig.finv := funext fun x => by
  unfold inv1
  split
  · rename_i h; subst h; exact finv_one.symm
  · rfl
theorem combine_inv1 (rows : List (List Int)) (target : List Int) : Sig.combine rows target = combineG inv1 rows target := by rw [inv1_eq]; rfl
def sameS : List S38 → List S38 → Bool
  | [], [] => true
  | a :: l, b :: m => a.f0 == b.f0 && a.f1 == b.f1 && sameS l m
  | [], _ :: _ => false
  | _ :: _, [] => false
theorem sameS_iff : ∀ (l m : List S38), sameS l m = true ↔ l = m
  | [], [] => ⟨fun _ => rfl, fun _ => rfl⟩
  | [], _ :: _ => ⟨fun h => (by cases h), fun h => (by cases h)⟩
  | _ :: _, [] => ⟨fun h => (by cases h), fun h => (by cases h)⟩
  | ⟨a0, a1⟩ :: l, ⟨b0, b1⟩ :: m => by
    simp only [sameS, Bool.and_eq_true, beq_iff_eq, List.cons.injEq, S38.mk.injEq, sameS_iff l m]
theorem sameS_length : ∀ (l m : List S38), l.length ≠ m.length → sameS l m = false := fun l m h => by
  cases e : sameS l m with
  | false => rfl
  | true => exact absurd (congrArg List.length ((sameS_iff l m).1 e)) h
theorem rdT_nat (l : List S38) (i : Nat) (h : i < l.length) : rd_T38 l (i : Int) = l[i] := by
  unfold rd_T38; rw [Int.toNat_natCast, List.getD_eq_getElem?_getD, List.getElem?_eq_getElem h]; rfl
theorem same_l0 (l m : List S38) (hl : l.length < 1000000) (he : l.length = m.length) (k : Nat) : ∀ d j, l.length - j = d → j ≤ l.length → signatoryref34_Same.l0 (k + d + 1) l m (j : Int) = some (sameS (l.drop j) (m.drop j)) := by
  intro d
  induction d with
  | zero =>
    intro j hd hj
    obtain rfl : j = l.length := by omega
    rw [signatoryref34_Same.l0, if_neg (by omega), List.drop_length, he, List.drop_length]; rfl
  | succ d ih =>
    intro j hd hj
    have h1 : j < l.length := by omega
    have h2 : j < m.length := by omega
    rw [signatoryref34_Same.l0, if_pos (by omega), if_pos (by omega), if_pos (by omega), rdT_nat l j h1, rdT_nat m j h2, List.drop_eq_getElem_cons h1, List.drop_eq_getElem_cons h2, sameS]
    cases e0 : (l[j].f0 == m[j].f0) with
    | false => simp
    | true =>
      cases e1 : (l[j].f1 == m[j].f1) with
      | false => simp
      | true =>
        rw [if_neg (by decide), wrap_succ (by omega), ← Nat.add_assoc, ih (j + 1) (by omega) (by omega)]; rfl
theorem same_math (l m : List S38) (hl : l.length < 1000000) (k : Nat) (hk : l.length < k) : signatoryref34_Same.f k l m = some (sameS l m) := by
  unfold signatoryref34_Same.f
  by_cases h : l.length = m.length
  · rw [if_pos (by omega)]
    obtain ⟨k, rfl⟩ : ∃ k', k = k' + l.length + 1 := ⟨k - l.length - 1, by omega⟩
    exact same_l0 l m hl h k l.length 0 (by omega) (by omega)
  · rw [if_neg (by omega), sameS_length l m h]
theorem deal_odd {rows : List (List Int)} {owners : List Int} {secret : Int} {random : List Int} (hc : checkP rows owners = 0) (hs : inQ secret = false) (k : Nat) (hk : 300 ≤ k) :
    dealing_Deal.f k rows owners secret random = some ([], [], 1) := by
  have ho : ([secret] : List Int).any outQ = true := by
    unfold inQ at hs
    simp [outQ]
    rw [Bool.and_eq_false_iff, decide_eq_false_iff_not, decide_eq_false_iff_not] at hs
    omega
  unfold dealing_Deal.f
  rw [check_math _ _ _ (by omega), hc, Option.bind_some, if_pos rfl]
  unfold dealing_numbers.f contains_outQ.f
  rw [Option.bind_some, ho, Option.bind_some, if_neg (by decide)]
  obtain ⟨k, rfl⟩ : ∃ k', k = k' + 1 := ⟨k - 1, by omega⟩
  rw [dealing_Deal.j0, if_pos rfl]
end Go.Proofs.Ytdbamhckgaoibaa.P
namespace Go.Proofs.Ytdbamhckgaoibaa.P
open Go.RowKit Go.Proofs.YtdbamhckgaoibaaW.PrintWords Go.Proofs.YtdbamhckgaoibaaW.PrintLast Go.Proofs.YtdbamhckgaoibaaW.PrintMore
theorem ex_comb1 : Sig.combine [[1]] [1] = some [1] := by rw [combine_inv1]; decide +kernel
theorem ex_comb0 : Sig.combine [] [1] = none := by rw [combine_inv1]; decide +kernel
theorem ex_comb2 : Sig.combine [[1, 1], [1, 2]] [1, 0] = some [2, 1073741788] := by rw [combine_inv1]; decide +kernel
theorem ex_check1 : checkP [[1]] [4] = 0 := by decide +kernel
theorem ex_check2 : checkP [[1, 1], [1, 2]] [5, 6] = 0 := by decide +kernel
theorem ex_rec1 : dealing_Recover.f [[1]] [4] [⟨0, 7⟩] = some (7, true, 0) := by
  unfold dealing_Recover.f recQ recT
  rw [if_pos ex_check1, if_pos (by decide +kernel), show rowsOf [[1]] [⟨0, 7⟩] = [[1]] from rfl, show targetP [[1]] = [1] from rfl, ex_comb1]
  rfl
theorem ex_rec0 : dealing_Recover.f [[1]] [4] [] = some (0, false, 0) := by
  unfold dealing_Recover.f recQ recT
  rw [if_pos ex_check1, if_pos (by decide +kernel), show rowsOf [[1]] [] = [] from rfl, show targetP [[1]] = [1] from rfl, ex_comb0]
theorem ex_rec2 : dealing_Recover.f [[1, 1], [1, 2]] [5, 6] [⟨0, 13⟩, ⟨1, 16⟩] = some (10, true, 0) := by
  unfold dealing_Recover.f recQ recT
  rw [if_pos ex_check2, if_pos (by decide +kernel), show rowsOf [[1, 1], [1, 2]] [⟨0, 13⟩, ⟨1, 16⟩] = [[1, 1], [1, 2]] from rfl, show targetP [[1, 1], [1, 2]] = [1, 0] from rfl, ex_comb2]
  rfl
theorem ex_shares1 : sharesQ [[1]] [7] = [⟨0, 7⟩] := rfl
theorem ex_shares2 : sharesQ [[1, 1], [1, 2]] [10, 3] = [⟨0, 13⟩, ⟨1, 16⟩] := rfl
theorem ex_commit7 : commitQ 7 = 16384 := by decide +kernel
theorem ex_map7 : ([7] : List Int).map commitQ = [16384] := by rw [List.map_cons, List.map_nil, ex_commit7]
theorem ex_deal1 (k : Nat) (hk : 300 ≤ k) : dealing_Deal.f k [[1]] [4] 7 [] = some ([⟨0, 7⟩], [16384], 0) := by
  rw [deal_math ex_check1 (by decide) (by decide) (by decide) k hk, ex_shares1, ex_map7]
theorem ex_deal2 (k : Nat) (hk : 300 ≤ k) : dealing_Deal.f k [[1, 1], [1, 2]] [5, 6] 10 [3] = some ([⟨0, 13⟩, ⟨1, 16⟩], [10, 3].map commitQ, 0) := by
  rw [deal_math ex_check2 (by decide) (by decide) (by decide) k hk, ex_shares2]
theorem ex_fits (k : Nat) (hk : 300 ≤ k) (v : Int) (hv : inQ v = true) : dealing_Fits.f k [[1]] [4] [16384] 0 v = some (commitQ v == 16384, 0) := by
  have := fits_dealt (s := [7]) ex_check1 rfl (i := 0) (by decide) hv k hk
  rw [ex_map7] at this
  rw [show ((0 : Nat) : Int) = 0 from rfl] at this
  rw [this, show Sig.dot ([[1]].getD 0 []) [7] = 7 from rfl, ex_commit7]
theorem ex_pub1 (k : Nat) (hk : 300 ≤ k) : dealing_Public.f k [[1]] [4] [16384] 1 = some (0, 1) := by
  have := check_dealt (s := [7]) ex_check1 rfl k hk
  rw [ex_map7] at this
  unfold dealing_Public.f
  rw [this, Option.bind_some, if_pos rfl, if_neg (by decide), decide_eq_true (by decide)]
  obtain ⟨k, rfl⟩ : ∃ k', k = k' + 1 := ⟨k - 1, by omega⟩
  rw [dealing_Public.j0, if_pos rfl]
theorem ex_pub2 (k : Nat) (hk : 300 ≤ k) : dealing_Public.f k [[1, 1], [1, 2]] [5, 6] [16384] 0 = some (0, 340) := by
  have : dealing_check.f k [[1, 1], [1, 2]] [5, 6] [16384] = some 340 := by
    unfold dealing_check.f
    rw [check_math _ _ _ (by omega), ex_check2, Option.bind_some, if_pos rfl, cols_math, Option.bind_some, if_neg (by decide)]
  unfold dealing_Public.f
  rw [this, Option.bind_some, if_neg (by decide)]
end Go.Proofs.Ytdbamhckgaoibaa.P
namespace Go.Proofs.Ytdbamhckgaoibaa.P
open Go.RowKit Go.Proofs.YtdbamhckgaoibaaW.PrintWords Go.Proofs.YtdbamhckgaoibaaW.PrintLast Go.Proofs.YtdbamhckgaoibaaW.PrintMore
set_option linter.unusedVariables false
theorem one_p (W : World) : Calls Try.prog 81 #[] W fun e' w' => ∃ B0 d0 B1 d1, e' = .returned (.agg #[.slice B0 1 d0, .slice B1 1 d1]) ∧ Sl (Kd.slice 3 (Kd.int .i64)) w' B0 d0 [[1]] ∧ Sl (Kd.int .i64) w' B1 d1 [4] ∧ Below W.heap.size W w' := by
  refine (signatorylaw34_one.calls [[1]] [4] W rfl).mono ?_
  rintro e' w' ⟨v0, v1, rfl, g0, g1, hb⟩
  obtain ⟨B0, d0, rfl, s0⟩ := Sl.ofN g0
  obtain ⟨B1, d1, rfl, s1⟩ := Sl.ofR g1
  exact ⟨B0, d0, B1, d1, rfl, s0, s1, hb⟩
theorem same_p (k : Nat) {A0 A1 : Option Addr} {c0 c1 : Nat} {l m : List S38} {r : Bool} {W : World} (h0 : Sl k38 W A0 c0 l) (h1 : Sl k38 W A1 c1 m) (h : signatoryref34_Same.f k l m = some r) :
    Calls Try.prog 26 #[.slice A0 l.length c0, .slice A1 m.length c1] W fun e' w' => e' = .returned (.bool r) ∧ Below W.heap.size W w' :=
  (signatoryref34_Same.calls k A0 c0 l A1 c1 m r W h0.rd h0.le h1.rd h1.le h).mono fun _ _ h => ⟨h.1, h.2.below⟩
set_option maxRecDepth 100000 in
set_option maxHeartbeats 8000000 in
theorem sane34_c (w : World) : Calls Try.prog 20 #[] w fun e w' => e = .returned (.bool true) ∧ Below w.heap.size w w' := by
  go_enter Try.func20, Try.ntmps20
  go_wp2_with fail
  refine (one_p _).mono ?_
  rintro e w1 ⟨Ao, co, Bo, do_, rfl, ho, hp, hb⟩
  have HB := Aside0.mk hb
  have H_rows := Aside0.mk ho
  have H_own := Aside0.mk hp
  clear hb ho hp
  go_wp2_with fail
  refine (deal_p 300 H_rows.out H_own.out (Sl.none_ _ _) (ex_deal1 300 (Nat.le_refl _))).mono ?_
  rintro e w2 ⟨As, cs, Ac, cc, rfl, h1, h2, hb⟩
  clear H_rows
  clear H_own
  replace HB := Aside0.mk (below_then HB.out HB.out.size hb)
  have H_l := Aside0.mk h1
  have H_cm := Aside0.mk h2
  clear hb h1 h2
  go_wp2_with fail
  refine (one_p _).mono ?_
  rintro e w3 ⟨Ao, co, Bo, do_, rfl, ho, hp, hb⟩
  replace H_l := Aside0.mk (H_l.out.below hb)
  replace H_cm := Aside0.mk (H_cm.out.below hb)
  replace HB := Aside0.mk (below_then HB.out HB.out.size hb)
  have H_rows := Aside0.mk ho
  have H_own := Aside0.mk hp
  clear hb ho hp
  go_wp2_with fail
  refine (deal_p 300 H_rows.out H_own.out (Sl.none_ _ _) (deal_odd ex_check1 (by decide) 300 (Nat.le_refl _))).mono ?_
  rintro e w4 ⟨_, _, _, _, rfl, _, _, hb⟩
  replace H_l := Aside0.mk (H_l.out.below hb)
  replace H_cm := Aside0.mk (H_cm.out.below hb)
  clear H_rows
  clear H_own
  replace HB := Aside0.mk (below_then HB.out HB.out.size hb)
  clear hb
  go_wp2_with fail
  refine (one_p _).mono ?_
  rintro e w5 ⟨Ao, co, Bo, do_, rfl, ho, hp, hb⟩
  replace H_l := Aside0.mk (H_l.out.below hb)
  replace H_cm := Aside0.mk (H_cm.out.below hb)
  replace HB := Aside0.mk (below_then HB.out HB.out.size hb)
  have H_rows := Aside0.mk ho
  have H_own := Aside0.mk hp
  clear hb ho hp
  go_wp2_with fail
  obtain ⟨w6, hw⟩ : ∃ W_, W_ = w5.alloc (.cells #[.int .i64 0, .int .i64 7] 38) := ⟨_, rfl⟩
  rw [← hw]
  have hb : Below w5.heap.size w5 w6 := by rw [hw]; exact (Below.refl _ _).alloc (Nat.le_refl _) _
  have hz : w5.heap.size = w5.heap.size := rfl
  have hs : w6.heap.size = w5.heap.size + 1 := by rw [hw, ← hz]; simp
  have hl : Sl k38 w6 (some ⟨w5.heap.size, 0, none⟩) 1 [⟨0, 7⟩] := by rw [hw, ← hz]; exact Sl.shares w5 38 [⟨0, 7⟩] (by decide)
  replace H_l := Aside0.mk (H_l.out.below hb)
  replace H_cm := Aside0.mk (H_cm.out.below hb)
  replace H_rows := Aside0.mk (H_rows.out.below hb)
  replace H_own := Aside0.mk (H_own.out.below hb)
  replace HB := Aside0.mk (below_then HB.out HB.out.size hb)
  have H_s1 := Aside0.mk hl; clear hl
  clear hw hb hz
  have HZ := Aside0.mk hs; clear hs
  refine (recover_p H_rows.out H_own.out H_s1.out ex_rec1).mono ?_
  rintro e w7 ⟨rfl, hb⟩
  replace H_l := Aside0.mk (H_l.out.below hb)
  replace H_cm := Aside0.mk (H_cm.out.below hb)
  clear H_rows
  clear H_own
  clear H_s1
  replace HB := Aside0.mk (below_then HB.out HB.out.size hb)
  clear hb
  go_wp2_with fail
  refine (one_p _).mono ?_
  rintro e w8 ⟨Ao, co, Bo, do_, rfl, ho, hp, hb⟩
  replace H_l := Aside0.mk (H_l.out.below hb)
  replace H_cm := Aside0.mk (H_cm.out.below hb)
  replace HB := Aside0.mk (below_then HB.out HB.out.size hb)
  have H_rows := Aside0.mk ho
  have H_own := Aside0.mk hp
  clear hb ho hp
  go_wp2_with fail
  refine (recover_p H_rows.out H_own.out (Sl.none_ _ _) ex_rec0).mono ?_
  rintro e w9 ⟨rfl, hb⟩
  replace H_l := Aside0.mk (H_l.out.below hb)
  replace H_cm := Aside0.mk (H_cm.out.below hb)
  clear H_rows
  clear H_own
  replace HB := Aside0.mk (below_then HB.out HB.out.size hb)
  clear hb
  go_wp2_with fail
  obtain ⟨w10, hw⟩ : ∃ W_, W_ = w9.alloc (.cells #[.int .i64 0, .int .i64 7] 38) := ⟨_, rfl⟩
  rw [← hw]
  have hb : Below w9.heap.size w9 w10 := by rw [hw]; exact (Below.refl _ _).alloc (Nat.le_refl _) _
  have hz : w9.heap.size = w9.heap.size := rfl
  have hs : w10.heap.size = w9.heap.size + 1 := by rw [hw, ← hz]; simp
  have hl : Sl k38 w10 (some ⟨w9.heap.size, 0, none⟩) 1 [⟨0, 7⟩] := by rw [hw, ← hz]; exact Sl.shares w9 38 [⟨0, 7⟩] (by decide)
  replace H_l := Aside0.mk (H_l.out.below hb)
  replace H_cm := Aside0.mk (H_cm.out.below hb)
  replace HB := Aside0.mk (below_then HB.out HB.out.size hb)
  have H_s1 := Aside0.mk hl; clear hl
  clear hw hb hz
  have HZ := Aside0.mk hs; clear hs
  refine (same_p 300 H_l.out H_s1.out (same_math _ _ (by decide) 300 (by decide))).mono ?_
  rintro e w11 ⟨rfl, hb⟩
  clear H_l
  replace H_cm := Aside0.mk (H_cm.out.below hb)
  clear H_s1
  replace HB := Aside0.mk (below_then HB.out HB.out.size hb)
  clear hb
  go_wp2_with fail
  refine (group_Pow.calls 4 7 _ _ _ (pow_four 7)).mono ?_
  rintro e w12 ⟨rfl, hb⟩
  replace H_cm := Aside0.mk (H_cm.out.below hb)
  replace HB := Aside0.mk (below_then HB.out HB.out.size hb)
  clear hb
  go_wp2_with fail
  refine (one_p _).mono ?_
  rintro e w13 ⟨Ao, co, Bo, do_, rfl, ho, hp, hb⟩
  replace H_cm := Aside0.mk (H_cm.out.below hb)
  replace HB := Aside0.mk (below_then HB.out HB.out.size hb)
  have H_rows := Aside0.mk ho
  have H_own := Aside0.mk hp
  clear hb ho hp
  go_wp2_with fail
  refine (fits_p 300 H_rows.out H_own.out H_cm.out (ex_fits 300 (Nat.le_refl _) 7 (by decide))).mono ?_
  rintro e w14 ⟨rfl, hb⟩
  replace H_cm := Aside0.mk (H_cm.out.below hb)
  clear H_rows
  clear H_own
  replace HB := Aside0.mk (below_then HB.out HB.out.size hb)
  clear hb
  go_wp2_with fail
  refine (one_p _).mono ?_
  rintro e w15 ⟨Ao, co, Bo, do_, rfl, ho, hp, hb⟩
  replace H_cm := Aside0.mk (H_cm.out.below hb)
  replace HB := Aside0.mk (below_then HB.out HB.out.size hb)
  have H_rows := Aside0.mk ho
  have H_own := Aside0.mk hp
  clear hb ho hp
  go_wp2_with fail
  refine (fits_p 300 H_rows.out H_own.out H_cm.out (ex_fits 300 (Nat.le_refl _) 8 (by decide))).mono ?_
  rintro e w16 ⟨rfl, hb⟩
  replace H_cm := Aside0.mk (H_cm.out.below hb)
  clear H_rows
  clear H_own
  replace HB := Aside0.mk (below_then HB.out HB.out.size hb)
  clear hb
  go_wp2_with fail
  obtain ⟨w17, hw⟩ : ∃ W_, W_ = w16.alloc (.cells #[.int .i64 1, .int .i64 1] 3) := ⟨_, rfl⟩
  rw [← hw]
  have hb : Below w16.heap.size w16 w17 := by rw [hw]; exact (Below.refl _ _).alloc (Nat.le_refl _) _
  have hz : w16.heap.size = w16.heap.size := rfl
  have hs : w17.heap.size = w16.heap.size + 1 := by rw [hw, ← hz]; simp
  have hl : Sl (Kd.int .i64) w17 (some ⟨w16.heap.size, 0, none⟩) 2 [1, 1] := by rw [hw, ← hz]; exact Sl.ints w16 3 [1, 1] (by decide)
  replace H_cm := Aside0.mk (H_cm.out.below hb)
  replace HB := Aside0.mk (below_then HB.out HB.out.size hb)
  have H_r1 := Aside0.mk hl; clear hl
  clear hw hb hz
  have HZ := Aside0.mk hs; clear hs
  obtain ⟨w18, hw⟩ : ∃ W_, W_ = w17.alloc (.cells #[.int .i64 1, .int .i64 2] 3) := ⟨_, rfl⟩
  rw [← hw]
  have hb : Below w17.heap.size w17 w18 := by rw [hw]; exact (Below.refl _ _).alloc (Nat.le_refl _) _
  have hz : w17.heap.size = w16.heap.size + 1 := HZ.out
  have hs : w18.heap.size = w16.heap.size + 1 + 1 := by rw [hw, ← hz]; simp
  have hl : Sl (Kd.int .i64) w18 (some ⟨w16.heap.size + 1, 0, none⟩) 2 [1, 2] := by rw [hw, ← hz]; exact Sl.ints w17 3 [1, 2] (by decide)
  replace H_cm := Aside0.mk (H_cm.out.below hb)
  replace H_r1 := Aside0.mk (H_r1.out.below hb)
  replace HB := Aside0.mk (below_then HB.out HB.out.size hb)
  have H_r2 := Aside0.mk hl; clear hl
  clear hw hb hz
  have HZ := Aside0.mk hs; clear hs
  obtain ⟨w19, hw⟩ : ∃ W_, W_ = w18.alloc (.cells #[.slice (some ⟨w16.heap.size, 0, none⟩) 2 2, .slice (some ⟨w16.heap.size + 1, 0, none⟩) 2 2] 23) := ⟨_, rfl⟩
  rw [← hw]
  have hb : Below w18.heap.size w18 w19 := by rw [hw]; exact (Below.refl _ _).alloc (Nat.le_refl _) _
  have hz : w18.heap.size = w16.heap.size + 1 + 1 := HZ.out
  have hs : w19.heap.size = w16.heap.size + 1 + 1 + 1 := by rw [hw, ← hz]; simp
  have hl : Sl (Kd.slice 3 (Kd.int .i64)) w19 (some ⟨w16.heap.size + 1 + 1, 0, none⟩) 2 [[1, 1], [1, 2]] := by rw [hw, ← hz]; exact Sl.rows w18 23 3 [.slice (some ⟨w16.heap.size, 0, none⟩) 2 2, .slice (some ⟨w16.heap.size + 1, 0, none⟩) 2 2] [[1, 1], [1, 2]] (.cons (SlAt.mk_ H_r1.out) (.cons (SlAt.mk_ H_r2.out) SlsAt.nil)) (by decide)
  replace H_cm := Aside0.mk (H_cm.out.below hb)
  replace H_r1 := Aside0.mk (H_r1.out.below hb)
  replace H_r2 := Aside0.mk (H_r2.out.below hb)
  replace HB := Aside0.mk (below_then HB.out HB.out.size hb)
  have H_rr := Aside0.mk hl; clear hl
  clear hw hb hz
  have HZ := Aside0.mk hs; clear hs
  obtain ⟨w20, hw⟩ : ∃ W_, W_ = w19.alloc (.cells #[.int .i64 5, .int .i64 6] 3) := ⟨_, rfl⟩
  rw [← hw]
  have hb : Below w19.heap.size w19 w20 := by rw [hw]; exact (Below.refl _ _).alloc (Nat.le_refl _) _
  have hz : w19.heap.size = w16.heap.size + 1 + 1 + 1 := HZ.out
  have hs : w20.heap.size = w16.heap.size + 1 + 1 + 1 + 1 := by rw [hw, ← hz]; simp
  have hl : Sl (Kd.int .i64) w20 (some ⟨w16.heap.size + 1 + 1 + 1, 0, none⟩) 2 [5, 6] := by rw [hw, ← hz]; exact Sl.ints w19 3 [5, 6] (by decide)
  replace H_cm := Aside0.mk (H_cm.out.below hb)
  replace H_r1 := Aside0.mk (H_r1.out.below hb)
  replace H_r2 := Aside0.mk (H_r2.out.below hb)
  replace H_rr := Aside0.mk (H_rr.out.below hb)
  replace HB := Aside0.mk (below_then HB.out HB.out.size hb)
  have H_oo := Aside0.mk hl; clear hl
  clear hw hb hz
  have HZ := Aside0.mk hs; clear hs
  obtain ⟨w21, hw⟩ : ∃ W_, W_ = w20.alloc (.cells #[.slice (some ⟨w16.heap.size + 1 + 1, 0, none⟩) 2 2, .slice (some ⟨w16.heap.size + 1 + 1 + 1, 0, none⟩) 2 2] 25) := ⟨_, rfl⟩
  rw [← hw]
  have hb : Below w20.heap.size w20 w21 := by rw [hw]; exact (Below.refl _ _).alloc (Nat.le_refl _) _
  have hz : w20.heap.size = w16.heap.size + 1 + 1 + 1 + 1 := HZ.out
  have hs : w21.heap.size = w16.heap.size + 1 + 1 + 1 + 1 + 1 := by rw [hw, ← hz]; simp
  replace H_cm := Aside0.mk (H_cm.out.below hb)
  replace H_r1 := Aside0.mk (H_r1.out.below hb)
  replace H_r2 := Aside0.mk (H_r2.out.below hb)
  replace H_rr := Aside0.mk (H_rr.out.below hb)
  replace H_oo := Aside0.mk (H_oo.out.below hb)
  replace HB := Aside0.mk (below_then HB.out HB.out.size hb)
  have H_two0 := Aside0.mk (⟨by rw [hw, ← hz]; simp only [World.cell?]; rw [World.alloc_heap_new]; rfl, by rw [hs]; omega⟩ : w21.cell? ⟨w16.heap.size + 1 + 1 + 1 + 1, 0, none⟩ = some (.slice (some ⟨w16.heap.size + 1 + 1, 0, none⟩) 2 2) ∧ w16.heap.size + 1 + 1 + 1 + 1 < w21.heap.size)
  have H_two1 := Aside0.mk (⟨by rw [hw, ← hz]; simp only [World.cell?]; rw [World.alloc_heap_new]; rfl, by rw [hs]; omega⟩ : w21.cell? ⟨w16.heap.size + 1 + 1 + 1 + 1, 1, none⟩ = some (.slice (some ⟨w16.heap.size + 1 + 1 + 1, 0, none⟩) 2 2) ∧ w16.heap.size + 1 + 1 + 1 + 1 < w21.heap.size)
  clear hw hb hz
  have HZ := Aside0.mk hs; clear hs
  obtain ⟨w22, hw⟩ : ∃ W_, W_ = w21.alloc (.cells #[.int .i64 3] 3) := ⟨_, rfl⟩
  rw [← hw]
  have hb : Below w21.heap.size w21 w22 := by rw [hw]; exact (Below.refl _ _).alloc (Nat.le_refl _) _
  have hz : w21.heap.size = w16.heap.size + 1 + 1 + 1 + 1 + 1 := HZ.out
  have hs : w22.heap.size = w16.heap.size + 1 + 1 + 1 + 1 + 1 + 1 := by rw [hw, ← hz]; simp
  have hl : Sl (Kd.int .i64) w22 (some ⟨w16.heap.size + 1 + 1 + 1 + 1 + 1, 0, none⟩) 1 [3] := by rw [hw, ← hz]; exact Sl.ints w21 3 [3] (by decide)
  replace H_cm := Aside0.mk (H_cm.out.below hb)
  replace H_r1 := Aside0.mk (H_r1.out.below hb)
  replace H_r2 := Aside0.mk (H_r2.out.below hb)
  replace H_rr := Aside0.mk (H_rr.out.below hb)
  replace H_oo := Aside0.mk (H_oo.out.below hb)
  replace H_two0 := Aside0.mk (⟨(hb.cell (p := ⟨_, _, none⟩) H_two0.out.2).trans H_two0.out.1, Nat.lt_of_lt_of_le H_two0.out.2 hb.size⟩ : _ ∧ _)
  replace H_two1 := Aside0.mk (⟨(hb.cell (p := ⟨_, _, none⟩) H_two1.out.2).trans H_two1.out.1, Nat.lt_of_lt_of_le H_two1.out.2 hb.size⟩ : _ ∧ _)
  replace HB := Aside0.mk (below_then HB.out HB.out.size hb)
  have H_n3 := Aside0.mk hl; clear hl
  clear hw hb hz
  have HZ := Aside0.mk hs; clear hs
  refine (deal_p 300 H_rr.out H_oo.out H_n3.out (ex_deal2 300 (Nat.le_refl _))).mono ?_
  rintro e w23 ⟨Ab, cb, _, _, rfl, h1, _, hb⟩
  replace H_cm := Aside0.mk (H_cm.out.below hb)
  clear H_r1
  clear H_r2
  replace H_rr := Aside0.mk (H_rr.out.below hb)
  replace H_oo := Aside0.mk (H_oo.out.below hb)
  replace H_two0 := Aside0.mk (⟨(hb.cell (p := ⟨_, _, none⟩) H_two0.out.2).trans H_two0.out.1, Nat.lt_of_lt_of_le H_two0.out.2 hb.size⟩ : _ ∧ _)
  replace H_two1 := Aside0.mk (⟨(hb.cell (p := ⟨_, _, none⟩) H_two1.out.2).trans H_two1.out.1, Nat.lt_of_lt_of_le H_two1.out.2 hb.size⟩ : _ ∧ _)
  clear H_n3
  replace HB := Aside0.mk (below_then HB.out HB.out.size hb)
  have H_both := Aside0.mk h1
  clear hb h1
  have x_two0 := H_two0.out.1
  have x_two1 := H_two1.out.1
  go_wp2_with fail
  clear x_two0 x_two1
  refine (recover_p H_rr.out H_oo.out H_both.out ex_rec2).mono ?_
  rintro e w24 ⟨rfl, hb⟩
  replace H_cm := Aside0.mk (H_cm.out.below hb)
  replace H_rr := Aside0.mk (H_rr.out.below hb)
  replace H_oo := Aside0.mk (H_oo.out.below hb)
  replace H_two0 := Aside0.mk (⟨(hb.cell (p := ⟨_, _, none⟩) H_two0.out.2).trans H_two0.out.1, Nat.lt_of_lt_of_le H_two0.out.2 hb.size⟩ : _ ∧ _)
  replace H_two1 := Aside0.mk (⟨(hb.cell (p := ⟨_, _, none⟩) H_two1.out.2).trans H_two1.out.1, Nat.lt_of_lt_of_le H_two1.out.2 hb.size⟩ : _ ∧ _)
  replace H_both := Aside0.mk (H_both.out.below hb)
  replace HB := Aside0.mk (below_then HB.out HB.out.size hb)
  clear hb
  have x_two0 := H_two0.out.1
  have x_two1 := H_two1.out.1
  go_wp2_with fail
  clear x_two0 x_two1
  refine (public_p 300 H_rr.out H_oo.out H_cm.out (ex_pub2 300 (Nat.le_refl _))).mono ?_
  rintro e w25 ⟨rfl, hb⟩
  replace H_cm := Aside0.mk (H_cm.out.below hb)
  clear H_rr
  clear H_oo
  clear H_two0
  clear H_two1
  replace H_both := Aside0.mk (H_both.out.below hb)
  replace HB := Aside0.mk (below_then HB.out HB.out.size hb)
  clear hb
  go_wp2_with fail
  refine (one_p _).mono ?_
  rintro e w26 ⟨Ao, co, Bo, do_, rfl, ho, hp, hb⟩
  replace H_cm := Aside0.mk (H_cm.out.below hb)
  replace H_both := Aside0.mk (H_both.out.below hb)
  replace HB := Aside0.mk (below_then HB.out HB.out.size hb)
  have H_rows := Aside0.mk ho
  have H_own := Aside0.mk hp
  clear hb ho hp
  go_wp2_with fail
  refine (public_p 300 H_rows.out H_own.out H_cm.out (ex_pub1 300 (Nat.le_refl _))).mono ?_
  rintro e w27 ⟨rfl, hb⟩
  replace H_cm := Aside0.mk (H_cm.out.below hb)
  replace H_both := Aside0.mk (H_both.out.below hb)
  clear H_rows
  clear H_own
  replace HB := Aside0.mk (below_then HB.out HB.out.size hb)
  clear hb
  obtain ⟨ad, e, hx⟩ := Kd.at_int H_cm.out.rd 0 (by decide) (by decide)
  cases e
  have hx : w27.cell? ad = some (.int .i64 16384) := hx
  go_wp2_with fail
  clear hx
  clear H_cm
  obtain ⟨w28, hw⟩ : ∃ W_, W_ = w27.alloc (.cells #[.int .i64 0, .int .i64 13, .int .i64 1, .int .i64 16] 38) := ⟨_, rfl⟩
  rw [← hw]
  have hb : Below w27.heap.size w27 w28 := by rw [hw]; exact (Below.refl _ _).alloc (Nat.le_refl _) _
  have hz : w27.heap.size = w27.heap.size := rfl
  have hs : w28.heap.size = w27.heap.size + 1 := by rw [hw, ← hz]; simp
  have hl : Sl k38 w28 (some ⟨w27.heap.size, 0, none⟩) 2 [⟨0, 13⟩, ⟨1, 16⟩] := by rw [hw, ← hz]; exact Sl.shares w27 38 [⟨0, 13⟩, ⟨1, 16⟩] (by decide)
  replace H_both := Aside0.mk (H_both.out.below hb)
  replace HB := Aside0.mk (below_then HB.out HB.out.size hb)
  have H_s2 := Aside0.mk hl; clear hl
  clear hw hb hz
  have HZ := Aside0.mk hs; clear hs
  refine (same_p 300 H_both.out H_s2.out (same_math _ _ (by decide) 300 (by decide))).mono ?_
  rintro e w29 ⟨rfl, hb⟩
  clear H_both
  clear H_s2
  replace HB := Aside0.mk (below_then HB.out HB.out.size hb)
  clear hb
  go_wp2
  go_ret
  exact ⟨rfl, HB.out⟩
def signatorylaw34_sane.f : Option Bool := some true
theorem signatorylaw34_sane.calls (r : Bool) (w : World) (h : signatorylaw34_sane.f = some r) :
    Calls Try.prog 20 #[] w fun e w' => e = .returned (.bool r) ∧ Below w.heap.size w w' := by
  cases Option.some.inj h
  exact sane34_c w
end Go.Proofs.Ytdbamhckgaoibaa.P
namespace Go.Proofs.Ytdbamhckgaoibaa.P
open Go.RowKit Go.Proofs.YtdbamhckgaoibaaW.PrintWords Go.Proofs.YtdbamhckgaoibaaW.PrintLast Go.Proofs.YtdbamhckgaoibaaW.PrintMore
attribute [local go_sem] max2_int min2_int max_two min_two max_three min_three max_four min_four
set_option linter.unusedVariables false
set_option linter.unusedSimpArgs false
def signatorylaw34_DealingFits.l0 : Nat → Int → List Int → List (S38) → Int → Int → List (List Int) → List Int → Option (Bool)
 | 0, _, _, _, _, _, _, _ => none
 | k + 1, x3, x11, x73, x74, x75, x1191000, x1191001 => if x75 < x74 then (if 0 ≤ x75 then (if x75 < (x73.length : Int) then ((dealing_Fits.f k x1191000 x1191001 x11 ((rd_T38 x73 x75).f0) ((rd_T38 x73 x75).f1)).bind fun bt1209 => ((dealing_Fits.f k x1191000 x1191001 x11 ((rd_T38 x73 x75).f0) (Int.tmod (wrap64 (x3)) 1073741789)).bind fun bt1212 => (if bt1209.2 = 0 then (if bt1212.2 = 0 then (if bt1209.1 = true then (if (bt1212.1 != (((rd_T38 x73 x75).f1) == (Int.tmod (wrap64 (x3)) 1073741789))) = true then (none) else (signatorylaw34_DealingFits.l0 k x3 x11 x73 x74 (wrap64 (x75 + 1)) x1191000 x1191001)) else (none)) else (none)) else (none)))) else (none)) else (none)) else (some true)
def signatorylaw34_DealingFits.f (k : Nat) (l0_0 : List (List Int)) (l0_1 : List Int) (a1 : Int) (l2 : List Int) (a3 : Int) : Option (Bool) := (signatorylaw34_sane.f).bind fun t1191 => (if t1191 = true then ((signatoryref34_Small.f k l0_0 l0_1).bind fun t1192 => (if t1192 = true then ((signatorylaw34_random.f k l0_0 l0_1 l2).bind fun t1193 => ((dealing_Deal.f k l0_0 l0_1 (Int.tmod (wrap64 (a1)) 1073741789) t1193).bind fun bt1196 => ((group_Pow.f 4 (Int.tmod (wrap64 (a1)) 1073741789)).bind fun bt1203 => (if bt1196.2.2 = 0 then (if bt1203.2 = 0 then (if (bt1196.1.length : Int) = (l0_0.length : Int) then ((signatoryref34_Columns.f l0_0 l0_1).bind fun t1205 => (if (bt1196.2.1.length : Int) = t1205 then (if 0 < (bt1196.2.1.length : Int) then (if (rd bt1196.2.1 0) = bt1203.1 then (signatorylaw34_DealingFits.l0 k a3 bt1196.2.1 bt1196.1 (bt1196.1.length : Int) 0 l0_0 l0_1) else (none)) else (none)) else (none))) else (none)) else (none)) else (none))))) else (some true))) else (none))
def signatorylaw34_DealingFits.T6 : Bool × List (List Nat × List Nat) := (true, [([], []), ([], []), ([], []), ([], []), ([2, 3], [2, 3]), ([0, 1, 4, 4], [0, 1, 4]), ([5], [5]), ([6], [6]), ([6], [6]), ([6], [6]), ([7, 5, 0, 1, 2, 3, 4, 5, 6, 7], [7]), ([8, 10, 0, 1, 2, 3, 4, 5, 6, 7, 8, 10], [8]), ([9, 11, 0, 1, 2, 3, 4, 5, 6, 7, 8, 9, 10, 11], [9])])
def signatorylaw34_DealingFits.B6 : List Nat := [0, 0, 0, 0, 12, 31, 63, 127, 127, 127, 255, 1535, 4095]
theorem signatorylaw34_DealingFits.tab6 : rtab .any (opsOf Try.f5 6) = signatorylaw34_DealingFits.T6 := by kernel_rfl
theorem signatorylaw34_DealingFits.bits6 : waitsOk signatorylaw34_DealingFits.T6.2 signatorylaw34_DealingFits.B6 = true := by kernel_rfl
set_option maxHeartbeats 8000000 in
set_option maxRecDepth 100000 in
theorem signatorylaw34_DealingFits.calls (k : Nat) (A0_0 : Option Addr) (c0_0 : Nat) (l0_0 : List (List Int)) (A0_1 : Option Addr) (c0_1 : Nat) (l0_1 : List Int) (a1 : Int) (A2 : Option Addr) (c2 : Nat) (l2 : List Int) (a3 : Int) (r : Bool) (w : World) (hr0_0 : Kd.C (Kd.slice 3 (Kd.int .i64)) w A0_0 l0_0.length l0_0) (hc0_0 : l0_0.length ≤ c0_0) (hr0_1 : Kd.C (Kd.int .i64) w A0_1 l0_1.length l0_1) (hc0_1 : l0_1.length ≤ c0_1) (hr2 : Kd.C (Kd.int .u32) w A2 l2.length l2) (hc2 : l2.length ≤ c2) (h : signatorylaw34_DealingFits.f k l0_0 l0_1 a1 l2 a3 = some r) :
  Calls Try.prog 5 #[.agg #[.slice A0_0 l0_0.length c0_0, .slice A0_1 l0_1.length c0_1], .int .u32 a1, .slice A2 l2.length c2, .int .u32 a3] w fun e w' => e = .returned (.bool r) ∧ Below w.heap.size w w' := by
 have hu25 := Try.underlying25
 have hu38 := Try.underlying38
 have HR0_0 := Aside0.mk hr0_0
 have HC0_0 := Aside0.mk hc0_0
 clear hr0_0 hc0_0
 have HR0_1 := Aside0.mk hr0_1
 have HC0_1 := Aside0.mk hc0_1
 clear hr0_1 hc0_1
 have HR2 := Aside0.mk hr2
 have HC2 := Aside0.mk hc2
 clear hr2 hc2
 have HB := Aside0.mk (Below.refl w.heap.size w)
 have H : ((signatorylaw34_sane.f).bind fun t1191 => (if t1191 = true then ((signatoryref34_Small.f k l0_0 l0_1).bind fun t1192 => (if t1192 = true then ((signatorylaw34_random.f k l0_0 l0_1 l2).bind fun t1193 => ((dealing_Deal.f k l0_0 l0_1 (Int.tmod (wrap64 (a1)) 1073741789) t1193).bind fun bt1196 => ((group_Pow.f 4 (Int.tmod (wrap64 (a1)) 1073741789)).bind fun bt1203 => (if bt1196.2.2 = 0 then (if bt1203.2 = 0 then (if (bt1196.1.length : Int) = (l0_0.length : Int) then ((signatoryref34_Columns.f l0_0 l0_1).bind fun t1205 => (if (bt1196.2.1.length : Int) = t1205 then (if 0 < (bt1196.2.1.length : Int) then (if (rd bt1196.2.1 0) = bt1203.1 then (signatorylaw34_DealingFits.l0 k a3 bt1196.2.1 bt1196.1 (bt1196.1.length : Int) 0 l0_0 l0_1) else (none)) else (none)) else (none))) else (none)) else (none)) else (none))))) else (some true))) else (none))) = some r := h
 clear h
 replace H := Option.bind_eq_some_iff.mp H
 obtain ⟨t1191, A50, H⟩ := H
 replace H : (if t1191 = true then ((signatoryref34_Small.f k l0_0 l0_1).bind fun t1192 => (if t1192 = true then ((signatorylaw34_random.f k l0_0 l0_1 l2).bind fun t1193 => ((dealing_Deal.f k l0_0 l0_1 (Int.tmod (wrap64 (a1)) 1073741789) t1193).bind fun bt1196 => ((group_Pow.f 4 (Int.tmod (wrap64 (a1)) 1073741789)).bind fun bt1203 => (if bt1196.2.2 = 0 then (if bt1203.2 = 0 then (if (bt1196.1.length : Int) = (l0_0.length : Int) then ((signatoryref34_Columns.f l0_0 l0_1).bind fun t1205 => (if (bt1196.2.1.length : Int) = t1205 then (if 0 < (bt1196.2.1.length : Int) then (if (rd bt1196.2.1 0) = bt1203.1 then (signatorylaw34_DealingFits.l0 k a3 bt1196.2.1 bt1196.1 (bt1196.1.length : Int) 0 l0_0 l0_1) else (none)) else (none)) else (none))) else (none)) else (none)) else (none))))) else (some true))) else (none)) = some r := H
 have A5 := Aside0.mk A50
 clear A50
 by_cases c6 : t1191 = true
 ·subst c6
  have H1 : ((signatoryref34_Small.f k l0_0 l0_1).bind fun t1192 => (if t1192 = true then ((signatorylaw34_random.f k l0_0 l0_1 l2).bind fun t1193 => ((dealing_Deal.f k l0_0 l0_1 (Int.tmod (wrap64 (a1)) 1073741789) t1193).bind fun bt1196 => ((group_Pow.f 4 (Int.tmod (wrap64 (a1)) 1073741789)).bind fun bt1203 => (if bt1196.2.2 = 0 then (if bt1203.2 = 0 then (if (bt1196.1.length : Int) = (l0_0.length : Int) then ((signatoryref34_Columns.f l0_0 l0_1).bind fun t1205 => (if (bt1196.2.1.length : Int) = t1205 then (if 0 < (bt1196.2.1.length : Int) then (if (rd bt1196.2.1 0) = bt1203.1 then (signatorylaw34_DealingFits.l0 k a3 bt1196.2.1 bt1196.1 (bt1196.1.length : Int) 0 l0_0 l0_1) else (none)) else (none)) else (none))) else (none)) else (none)) else (none))))) else (some true))) = some r := by rw [if_pos rfl] at H; exact H
  clear H
  have H := H1
  clear H1
  replace H := Option.bind_eq_some_iff.mp H
  obtain ⟨t1192, A70, H⟩ := H
  replace H : (if t1192 = true then ((signatorylaw34_random.f k l0_0 l0_1 l2).bind fun t1193 => ((dealing_Deal.f k l0_0 l0_1 (Int.tmod (wrap64 (a1)) 1073741789) t1193).bind fun bt1196 => ((group_Pow.f 4 (Int.tmod (wrap64 (a1)) 1073741789)).bind fun bt1203 => (if bt1196.2.2 = 0 then (if bt1203.2 = 0 then (if (bt1196.1.length : Int) = (l0_0.length : Int) then ((signatoryref34_Columns.f l0_0 l0_1).bind fun t1205 => (if (bt1196.2.1.length : Int) = t1205 then (if 0 < (bt1196.2.1.length : Int) then (if (rd bt1196.2.1 0) = bt1203.1 then (signatorylaw34_DealingFits.l0 k a3 bt1196.2.1 bt1196.1 (bt1196.1.length : Int) 0 l0_0 l0_1) else (none)) else (none)) else (none))) else (none)) else (none)) else (none))))) else (some true)) = some r := H
  have A7 := Aside0.mk A70
  clear A70
  by_cases c8 : t1192 = true
  ·subst c8
   have H1 : ((signatorylaw34_random.f k l0_0 l0_1 l2).bind fun t1193 => ((dealing_Deal.f k l0_0 l0_1 (Int.tmod (wrap64 (a1)) 1073741789) t1193).bind fun bt1196 => ((group_Pow.f 4 (Int.tmod (wrap64 (a1)) 1073741789)).bind fun bt1203 => (if bt1196.2.2 = 0 then (if bt1203.2 = 0 then (if (bt1196.1.length : Int) = (l0_0.length : Int) then ((signatoryref34_Columns.f l0_0 l0_1).bind fun t1205 => (if (bt1196.2.1.length : Int) = t1205 then (if 0 < (bt1196.2.1.length : Int) then (if (rd bt1196.2.1 0) = bt1203.1 then (signatorylaw34_DealingFits.l0 k a3 bt1196.2.1 bt1196.1 (bt1196.1.length : Int) 0 l0_0 l0_1) else (none)) else (none)) else (none))) else (none)) else (none)) else (none))))) = some r := by rw [if_pos rfl] at H; exact H
   clear H
   have H := H1
   clear H1
   replace H := Option.bind_eq_some_iff.mp H
   obtain ⟨t1193, A90, H⟩ := H
   replace H : ((dealing_Deal.f k l0_0 l0_1 (Int.tmod (wrap64 (a1)) 1073741789) t1193).bind fun bt1196 => ((group_Pow.f 4 (Int.tmod (wrap64 (a1)) 1073741789)).bind fun bt1203 => (if bt1196.2.2 = 0 then (if bt1203.2 = 0 then (if (bt1196.1.length : Int) = (l0_0.length : Int) then ((signatoryref34_Columns.f l0_0 l0_1).bind fun t1205 => (if (bt1196.2.1.length : Int) = t1205 then (if 0 < (bt1196.2.1.length : Int) then (if (rd bt1196.2.1 0) = bt1203.1 then (signatorylaw34_DealingFits.l0 k a3 bt1196.2.1 bt1196.1 (bt1196.1.length : Int) 0 l0_0 l0_1) else (none)) else (none)) else (none))) else (none)) else (none)) else (none)))) = some r := H
   have A9 := Aside0.mk A90
   clear A90
   replace H := Option.bind_eq_some_iff.mp H
   obtain ⟨⟨t1196, t1199, t1202⟩, A100, H⟩ := H
   replace H : ((group_Pow.f 4 (Int.tmod (wrap64 (a1)) 1073741789)).bind fun bt1203 => (if t1202 = 0 then (if bt1203.2 = 0 then (if (t1196.length : Int) = (l0_0.length : Int) then ((signatoryref34_Columns.f l0_0 l0_1).bind fun t1205 => (if (t1199.length : Int) = t1205 then (if 0 < (t1199.length : Int) then (if (rd t1199 0) = bt1203.1 then (signatorylaw34_DealingFits.l0 k a3 t1199 t1196 (t1196.length : Int) 0 l0_0 l0_1) else (none)) else (none)) else (none))) else (none)) else (none)) else (none))) = some r := H
   have A10 := Aside0.mk A100
   clear A100
   replace H := Option.bind_eq_some_iff.mp H
   obtain ⟨⟨t1203, t1204⟩, A110, H⟩ := H
   replace H : (if t1202 = 0 then (if t1204 = 0 then (if (t1196.length : Int) = (l0_0.length : Int) then ((signatoryref34_Columns.f l0_0 l0_1).bind fun t1205 => (if (t1199.length : Int) = t1205 then (if 0 < (t1199.length : Int) then (if (rd t1199 0) = t1203 then (signatorylaw34_DealingFits.l0 k a3 t1199 t1196 (t1196.length : Int) 0 l0_0 l0_1) else (none)) else (none)) else (none))) else (none)) else (none)) else (none)) = some r := H
   have A11 := Aside0.mk A110
   clear A110
   by_cases c12 : t1202 = 0
   ·rw [if_pos c12] at H
    have c12b0 : (t1202 == 0) = true := beq_iff_eq.mpr c12
    have c12b1 : (t1202 != 0) = false := bne_eq_false_iff_eq.mpr c12
    clear c12
    by_cases c13 : t1204 = 0
    ·rw [if_pos c13] at H
     have c13b0 : (t1204 == 0) = true := beq_iff_eq.mpr c13
     have c13b1 : (t1204 != 0) = false := bne_eq_false_iff_eq.mpr c13
     clear c13
     by_cases c14 : (t1196.length : Int) = (l0_0.length : Int)
     ·rw [if_pos c14] at H
      have c14b0 : ((t1196.length : Int) == (l0_0.length : Int)) = true := beq_iff_eq.mpr c14
      have c14b1 : ((t1196.length : Int) != (l0_0.length : Int)) = false := bne_eq_false_iff_eq.mpr c14
      have c14b2 : (t1196.length == l0_0.length) = true := by first | simpa using c14 | (simp at c14 ⊢; omega)
      clear c14
      replace H := Option.bind_eq_some_iff.mp H
      obtain ⟨t1205, A150, H⟩ := H
      replace H : (if (t1199.length : Int) = t1205 then (if 0 < (t1199.length : Int) then (if (rd t1199 0) = t1203 then (signatorylaw34_DealingFits.l0 k a3 t1199 t1196 (t1196.length : Int) 0 l0_0 l0_1) else (none)) else (none)) else (none)) = some r := H
      have A15 := Aside0.mk A150
      clear A150
      by_cases c16 : (t1199.length : Int) = t1205
      ·rw [if_pos c16] at H
       have c16b0 : ((t1199.length : Int) == t1205) = true := beq_iff_eq.mpr c16
       have c16b1 : ((t1199.length : Int) != t1205) = false := bne_eq_false_iff_eq.mpr c16
       clear c16
       by_cases c17 : 0 < (t1199.length : Int)
       ·rw [if_pos c17] at H
        have c17b0 : decide (0 < (t1199.length : Int)) = true := decide_eq_true c17
        have c17b1 : decide (0 < t1199.length) = true := decide_eq_true (by omega)
        clear c17
        by_cases c18 : (rd t1199 0) = t1203
        ·rw [if_pos c18] at H
         have c18b0 : ((rd t1199 0) == t1203) = true := beq_iff_eq.mpr c18
         have c18b1 : ((rd t1199 0) != t1203) = false := bne_eq_false_iff_eq.mpr c18
         clear c18
         have H' := Aside0.mk H
         clear H
         go_enter Try.func5, Try.ntmps5
         try go_wp2_with (first | ((with_reducible refine gate_dst (N := 4) rfl ?_); (try (refine gate_guard (by rfl) ?_; dsimp only)); refine box_event ?hg (N := 4) ?hd (cs := #[.slice A0_0 l0_0.length c0_0, .slice A0_1 l0_1.length c0_1]) (t := 25) ?hr ?_; (case hd => rfl); (case hg => rfl); (case hr => first | (go_simp; done) | (go_simp; rfl)); intro gb1190 hg w19 hbox hb; have n0_ := Aside0.mk (below_step (by repeat (first | (with_reducible first | exact HB.out | apply below_alloc | apply pw_below_drewN | apply below_drew1) | exact HB.out)) hb); have n1_ := Aside0.mk (hbox); have n2_ := Aside0.mk ((by rw [hg]; exact (below_size (by repeat (first | (with_reducible first | exact HB.out | apply below_alloc | apply pw_below_drewN | apply below_drew1) | exact HB.out))) : w.heap.size ≤ gb1190)); have n3_ := Aside0.mk ((by rw [hg]; exact (below_size (by repeat (first | (with_reducible first | exact HB.out | apply below_alloc | apply pw_below_drewN | apply below_drew1) | exact HB.out))) : w.heap.size ≤ gb1190)); clear HB; have HB := n0_; have BK1190 := n1_; have GW1190 := n2_; have GE1190 := n3_; clear n0_ n1_ n2_ n3_; clear hb hbox hg) | ((with_reducible refine gate_callee (f := 20) rfl ?_); refine goesL_ (some 22) rfl rfl Try.func20 (by kernel_rfl) rfl #[] rfl (by (try simp only [List.map_toArray, List.map_cons, List.map_nil]); first | done | rfl | (simp only [List.length_drop, List.length_take]; rfl)) ?_; (with_reducible refine (signatorylaw34_sane.calls  true _ A5.out).mono ?_); rintro e w20 ⟨rfl, hb⟩; refine ⟨_, rfl, ?_⟩; have n0_ := Aside0.mk (blk_below (g := gb1190) (o := .cells #[.slice A0_0 l0_0.length c0_0, .slice A0_1 l0_1.length c0_1] 25 (0, 0)) (by (with_reducible repeat (first | refine blk_drewN ?_ _ | refine blk_drew ?_ | refine blk_alloc ?_ _)); exact BK1190.out) hb); have n1_ := Aside0.mk (below_step (by repeat (first | (with_reducible first | exact HB.out | apply below_alloc | apply pw_below_drewN | apply below_drew1 | refine below_set ?_ GE1190.out) | exact HB.out)) hb); clear BK1190; clear HB; have BK1190 := n0_; have HB := n1_; clear n0_ n1_; (try clear hb); (try clear hb2); (try clear hk); (try clear hi); have hcz21_0 : w20.cell? ⟨gb1190, 0, none⟩ = some (.slice A0_0 l0_0.length c0_0) := (blk_cell BK1190.out 0).trans rfl; have hcz21_1 : w20.cell? ⟨gb1190, 1, none⟩ = some (.slice A0_1 l0_1.length c0_1) := (blk_cell BK1190.out 1).trans rfl; have hfz21_0 := blk_frozen BK1190.out 0; have hfz21_1 := blk_frozen BK1190.out 1) | ((with_reducible refine gate_callee (f := 32) rfl ?_); refine goesL_ (some 25) rfl rfl Try.func32 (by kernel_rfl) rfl #[.agg #[.slice A0_0 l0_0.length c0_0, .slice A0_1 l0_1.length c0_1]] rfl (by (try simp only [List.map_toArray, List.map_cons, List.map_nil]); first | done | rfl | (simp only [List.length_drop, List.length_take]; rfl)) ?_; (with_reducible refine (signatoryref34_Small.calls k _ _ l0_0 _ _ l0_1 true _ ?side1 ?side2 ?side3 ?side4 A7.out).mono ?_); (case side1 => repeat (first | exact (Kd.C_below HR0_0.out HB.out) | (with_reducible refine Kd.C_alloc ?_ _) | (with_reducible refine Kd.C_drewN ?_ _) | (with_reducible refine Kd.C_drew ?_))); (case side2 => exact HC0_0.out); (case side3 => repeat (first | exact (Kd.C_below HR0_1.out HB.out) | (with_reducible refine Kd.C_alloc ?_ _) | (with_reducible refine Kd.C_drewN ?_ _) | (with_reducible refine Kd.C_drew ?_))); (case side4 => exact HC0_1.out); rintro e w22 ⟨rfl, hb⟩; refine ⟨_, rfl, ?_⟩; have n0_ := Aside0.mk (blk_below (g := gb1190) (o := .cells #[.slice A0_0 l0_0.length c0_0, .slice A0_1 l0_1.length c0_1] 25 (0, 0)) (by (with_reducible repeat (first | refine blk_drewN ?_ _ | refine blk_drew ?_ | refine blk_alloc ?_ _)); exact BK1190.out) hb); have n1_ := Aside0.mk (below_step (by repeat (first | (with_reducible first | exact HB.out | apply below_alloc | apply pw_below_drewN | apply below_drew1 | refine below_set ?_ GE1190.out) | exact HB.out)) hb); clear BK1190; clear HB; have BK1190 := n0_; have HB := n1_; clear n0_ n1_; (try clear hb); (try clear hb2); (try clear hk); (try clear hi)))
         have n0_ := Aside0.mk (blk_drew BK1190.out)
         have n1_ := Aside0.mk (below_drew1 HB.out)
         clear BK1190
         clear HB
         have BK1190 := n0_
         have HB := n1_
         clear n0_ n1_
         refine start_ (n := 13) (S := fun w' => w'.cell? ⟨gb1190, 0, none⟩ = some (.slice A0_0 l0_0.length c0_0) ∧ w'.cell? ⟨gb1190, 1, none⟩ = some (.slice A0_1 l0_1.length c0_1)) (ds := []) #[false, false, false, false, false, false, false, false, false, false, false, false, false] (by kernel_rfl) rfl rfl ⟨(blk_cell BK1190.out 0).trans rfl, (blk_cell BK1190.out 1).trans rfl⟩ (fun hHeld => ?_); refine with_tabW signatorylaw34_DealingFits.tab6 signatorylaw34_DealingFits.bits6 (fun HT_ HW_ => ?_)
         generalize w22.drew = w23 at BK1190 HB hHeld ⊢
         refine pure_ (i := 1) (N := some 32) (v := ?_) (a' := ?_) #[false, true, false, false, false, false, false, false, false, false, false, false, false] rfl rfl (any_of HT_.out (by kernel_rfl)) (fun _ _ _ h => h) (Or.inl ⟨by rfl, ?_⟩) ?_ ?_
         rotate_left
         ·intro w'
          go_simp
          with_reducible rfl
         rotate_left
         ·simp only [Act.put, List.setIfInBounds_toArray, List.set_cons_zero, List.set_cons_succ, i64_w, i32_w]
          rfl
         refine pure_ (i := 3) (N := some 34) (v := ?_) (a' := ?_) #[false, true, false, true, false, false, false, false, false, false, false, false, false] rfl rfl (any_of HT_.out (by kernel_rfl)) (fun _ _ _ h => h) (Or.inl ⟨by rfl, ?_⟩) ?_ ?_
         rotate_left
         ·intro w'
          go_simp
          with_reducible rfl
         rotate_left
         ·simp only [Act.put, List.setIfInBounds_toArray, List.set_cons_zero, List.set_cons_succ, i64_w, i32_w]
          rfl
         refine take_ (i := 0) (N := some 31) (v := ?_) (a' := ?_) #[true, true, false, true, false, false, false, false, false, false, false, false, false] rfl rfl (take_ofW HT_.out HW_.out (by kernel_rfl)) (fun _ _ _ h => h) (Or.inl ⟨by rfl, ?_⟩) hHeld ?_ ?_
         rotate_left
         ·rintro w' ⟨s0, s1⟩
          go_simp
          with_reducible rfl
         rotate_left
         ·simp only [Act.put, List.setIfInBounds_toArray, List.set_cons_zero, List.set_cons_succ, i64_w, i32_w]
          rfl
         refine take_ (i := 2) (N := some 33) (v := ?_) (a' := ?_) #[true, true, true, true, false, false, false, false, false, false, false, false, false] rfl rfl (take_ofW HT_.out HW_.out (by kernel_rfl)) (fun _ _ _ h => h) (Or.inl ⟨by rfl, ?_⟩) hHeld ?_ ?_
         rotate_left
         ·rintro w' ⟨s0, s1⟩
          go_simp
          with_reducible rfl
         rotate_left
         ·simp only [Act.put, List.setIfInBounds_toArray, List.set_cons_zero, List.set_cons_succ, i64_w, i32_w]
          rfl
         refine one_ (i := 4) (N := some 35) #[true, true, true, true, true, false, false, false, false, false, false, false, false] rfl rfl (one_of HT_.out (by kernel_rfl)) (by decide) (fun K hK => ?_)
         refine goes_ Try.func33 (by kernel_rfl) rfl #[.agg #[.slice A0_0 l0_0.length c0_0, .slice A0_1 l0_1.length c0_1], .slice A2 l2.length c2] (by rfl) rfl rfl (by (try simp only [List.map_toArray, List.map_cons, List.map_nil]); first | done | rfl | (simp only [List.length_drop, List.length_take]; rfl)) ?_
         with_reducible refine (signatorylaw34_random.calls k _ _ l0_0 _ _ l0_1 _ _ l2 t1193 _ ?side1 ?side2 ?side3 ?side4 ?side5 ?side6 A9.out).mono ?_
         (case side1 => repeat (first | exact (Kd.C_below HR0_0.out HB.out) | (with_reducible refine Kd.C_alloc ?_ _) | (with_reducible refine Kd.C_drewN ?_ _) | (with_reducible refine Kd.C_drew ?_)))
         (case side2 => exact HC0_0.out)
         (case side3 => repeat (first | exact (Kd.C_below HR0_1.out HB.out) | (with_reducible refine Kd.C_alloc ?_ _) | (with_reducible refine Kd.C_drewN ?_ _) | (with_reducible refine Kd.C_drew ?_)))
         (case side4 => exact HC0_1.out)
         (case side5 => repeat (first | exact (Kd.C_below HR2.out HB.out) | (with_reducible refine Kd.C_alloc ?_ _) | (with_reducible refine Kd.C_drewN ?_ _) | (with_reducible refine Kd.C_drew ?_)))
         (case side6 => exact HC2.out)
         rintro e w24 ⟨v1194, rfl, ho0, hb⟩
         refine ⟨_, rfl, ?_⟩
         have n0_ := Aside0.mk (Kd.R_lower ho0 (below_size (by repeat (first | (with_reducible first | exact HB.out | apply below_alloc | apply pw_below_drewN | apply below_drew1 | refine below_set ?_ GE1190.out) | exact HB.out))))
         have n1_ := Aside0.mk (blk_below (g := gb1190) (o := .cells #[.slice A0_0 l0_0.length c0_0, .slice A0_1 l0_1.length c0_1] 25 (0, 0)) (by (with_reducible repeat (first | refine blk_drewN ?_ _ | refine blk_drew ?_ | refine blk_alloc ?_ _)); exact BK1190.out) hb)
         have n2_ := Aside0.mk (below_step (by repeat (first | (with_reducible first | exact HB.out | apply below_alloc | apply pw_below_drewN | apply below_drew1 | refine below_set ?_ GE1190.out) | exact HB.out)) hb)
         clear BK1190
         clear HB
         have HO1195 := n0_
         have BK1190 := n1_
         have HB := n2_
         clear n0_ n1_ n2_
         (try clear hb)
         (try clear hb2)
         (try clear hk)
         (try clear hi)
         (try clear ho0)
         obtain ⟨Ao25, co25, eo25⟩ := Kd.R_slice HO1195.out
         (first | subst eo25 | (injection eo25 with f1_ f2_ f3_; have f4_ := f1_.symm; have f5_ := f3_.symm; clear f1_ f2_ f3_; subst f4_; subst f5_))
         refine hK.out _ _ ⟨(blk_cell BK1190.out 0).trans rfl, (blk_cell BK1190.out 1).trans rfl⟩ (fun hHeld => ?_)
         clear hK K
         refine norm_ (a' := ?_) ?_ ?_
         rotate_left
         ·show Act.put _ (some 35) _ = _
          simp only [Act.put, List.setIfInBounds_toArray, List.set_cons_zero, List.set_cons_succ, i64_w, i32_w]
          rfl
         refine one_ (i := 5) (N := some 36) #[true, true, true, true, true, true, false, false, false, false, false, false, false] rfl rfl (one_of HT_.out (by kernel_rfl)) (by decide) (fun K hK => ?_)
         refine goes_ Try.func22 (by kernel_rfl) rfl #[.agg #[.slice A0_0 l0_0.length c0_0, .slice A0_1 l0_1.length c0_1], .int .i64 (Int.tmod (wrap64 (a1)) 1073741789), .slice Ao25 t1193.length co25] (by rfl) rfl rfl (by (try simp only [List.map_toArray, List.map_cons, List.map_nil]); first | done | rfl | (simp only [List.length_drop, List.length_take]; rfl)) ?_
         with_reducible refine (dealing_Deal.calls k _ _ l0_0 _ _ l0_1 (Int.tmod (wrap64 (a1)) 1073741789) (fun k_ => some k_ = (.slice Ao25 t1193.length co25 : Value).ownBlock) _ _ t1193 t1196 t1199 t1202 _ ?side1 ?side2 ?side3 ?side4 ?side5 A10.out).mono ?_
         (case side1 => repeat (first | exact (Kd.C_below HR0_0.out HB.out) | (with_reducible refine Kd.C_alloc ?_ _) | (with_reducible refine Kd.C_drewN ?_ _) | (with_reducible refine Kd.C_drew ?_)))
         (case side2 => exact HC0_0.out)
         (case side3 => repeat (first | exact (Kd.C_below HR0_1.out HB.out) | (with_reducible refine Kd.C_alloc ?_ _) | (with_reducible refine Kd.C_drewN ?_ _) | (with_reducible refine Kd.C_drew ?_)))
         (case side4 => exact HC0_1.out)
         (case side5 => exact Kd.R_V (Kd.R_tight rfl (Kd.R_types (HO1195.out) BK1190.out (by decide))))
         rintro e w26 ⟨v1197, v1200, rfl, ho0, ho1, hb⟩
         refine ⟨_, rfl, ?_⟩
         have n0_ := Aside0.mk (Kd.R_elder' (by (with_reducible repeat (first | apply Kd.R_alloc | apply Kd.R_drewN | apply Kd.R_drew)); exact HO1195.out) (Kd.R_base ho1) hb)
         have n1_ := Aside0.mk (Kd.R_lower (Kd.R_mono (ok' := fun k_ => True) ho0 (fun _ hk_ => trivial)) (below_size (by repeat (first | (with_reducible first | exact HB.out | apply below_alloc | apply pw_below_drewN | apply below_drew1 | refine below_set ?_ GE1190.out) | exact HB.out))))
         have n2_ := Aside0.mk (Kd.R_lower (Kd.R_new' (Kd.R_mono (ok' := fun k_ => True) ho1 (fun _ hk_ => trivial)) (Kd.R_lt (by (with_reducible repeat (first | apply Kd.R_alloc | apply Kd.R_drewN | apply Kd.R_drew)); exact HO1195.out))) (below_size (by repeat (first | (with_reducible first | exact HB.out | apply below_alloc | apply pw_below_drewN | apply below_drew1 | refine below_set ?_ GE1190.out) | exact HB.out))))
         have n3_ := Aside0.mk (blk_below (g := gb1190) (o := .cells #[.slice A0_0 l0_0.length c0_0, .slice A0_1 l0_1.length c0_1] 25 (0, 0)) (by (with_reducible repeat (first | refine blk_drewN ?_ _ | refine blk_drew ?_ | refine blk_alloc ?_ _)); exact BK1190.out) hb)
         have n4_ := Aside0.mk (below_step (by repeat (first | (with_reducible first | exact HB.out | apply below_alloc | apply pw_below_drewN | apply below_drew1 | refine below_set ?_ GE1190.out) | exact HB.out)) hb)
         clear HO1195
         clear BK1190
         clear HB
         have HO1195 := n0_
         have HO1198 := n1_
         have HO1201 := n2_
         have BK1190 := n3_
         have HB := n4_
         clear n0_ n1_ n2_ n3_ n4_
         (try clear hb)
         (try clear hb2)
         (try clear hk)
         (try clear hi)
         (try clear ho0)
         (try clear ho1)
         refine hK.out _ _ ⟨(blk_cell BK1190.out 0).trans rfl, (blk_cell BK1190.out 1).trans rfl⟩ (fun hHeld => ?_)
         clear hK K
         refine norm_ (a' := ?_) ?_ ?_
         rotate_left
         ·show Act.put _ (some 36) _ = _
          simp only [Act.put, List.setIfInBounds_toArray, List.set_cons_zero, List.set_cons_succ, i64_w, i32_w]
          rfl
         refine pure_ (i := 6) (N := some 30) (v := ?_) (a' := ?_) #[true, true, true, true, true, true, true, false, false, false, false, false, false] rfl rfl (any_of HT_.out (by kernel_rfl)) (fun _ _ _ h => h) (Or.inl ⟨by rfl, ?_⟩) ?_ ?_
         rotate_left
         ·intro w'
          go_simp
          with_reducible rfl
         rotate_left
         ·simp only [Act.put, List.setIfInBounds_toArray, List.set_cons_zero, List.set_cons_succ, i64_w, i32_w]
          rfl
         refine pure_ (i := 7) (N := some 37) (v := ?_) (a' := ?_) #[true, true, true, true, true, true, true, true, false, false, false, false, false] rfl rfl (any_of HT_.out (by kernel_rfl)) (fun _ _ _ h => h) (Or.inl ⟨by rfl, ?_⟩) ?_ ?_
         rotate_left
         ·intro w'
          go_simp
          with_reducible rfl
         rotate_left
         ·simp only [Act.put, List.setIfInBounds_toArray, List.set_cons_zero, List.set_cons_succ, i64_w, i32_w]
          rfl
         refine pure_ (i := 8) (N := some 38) (v := ?_) (a' := ?_) #[true, true, true, true, true, true, true, true, true, false, false, false, false] rfl rfl (any_of HT_.out (by kernel_rfl)) (fun _ _ _ h => h) (Or.inl ⟨by rfl, ?_⟩) ?_ ?_
         rotate_left
         ·intro w'
          go_simp
          with_reducible rfl
         rotate_left
         ·simp only [Act.put, List.setIfInBounds_toArray, List.set_cons_zero, List.set_cons_succ, i64_w, i32_w]
          rfl
         refine pure_ (i := 9) (N := some 39) (v := ?_) (a' := ?_) #[true, true, true, true, true, true, true, true, true, true, false, false, false] rfl rfl (any_of HT_.out (by kernel_rfl)) (fun _ _ _ h => h) (Or.inl ⟨by rfl, ?_⟩) ?_ ?_
         rotate_left
         ·intro w'
          go_simp
          with_reducible rfl
         rotate_left
         ·simp only [Act.put, List.setIfInBounds_toArray, List.set_cons_zero, List.set_cons_succ, i64_w, i32_w]
          rfl
         refine pure_ (i := 10) (N := some 10) (v := ?_) (a' := ?_) #[true, true, true, true, true, true, true, true, true, true, true, false, false] rfl rfl (any_of HT_.out (by kernel_rfl)) (fun _ _ _ h => h) (Or.inl ⟨by rfl, ?_⟩) ?_ ?_
         rotate_left
         ·intro w'
          go_simp
          with_reducible rfl
         rotate_left
         ·simp only [Act.put, List.setIfInBounds_toArray, List.set_cons_zero, List.set_cons_succ, i64_w, i32_w]
          rfl
         refine pure_ (i := 11) (N := some 11) (v := ?_) (a' := ?_) #[true, true, true, true, true, true, true, true, true, true, true, true, false] rfl rfl (any_of HT_.out (by kernel_rfl)) (fun _ _ _ h => h) (Or.inl ⟨by rfl, ?_⟩) ?_ ?_
         rotate_left
         ·intro w'
          go_simp
          with_reducible rfl
         rotate_left
         ·simp only [Act.put, List.setIfInBounds_toArray, List.set_cons_zero, List.set_cons_succ, i64_w, i32_w]
          rfl
         refine pure_ (i := 12) (N := some 12) (v := ?_) (a' := ?_) #[true, true, true, true, true, true, true, true, true, true, true, true, true] rfl rfl (any_of HT_.out (by kernel_rfl)) (fun _ _ _ h => h) (Or.inl ⟨by rfl, ?_⟩) ?_ ?_
         rotate_left
         ·intro w'
          go_simp
          with_reducible rfl
         rotate_left
         ·simp only [Act.put, List.setIfInBounds_toArray, List.set_cons_zero, List.set_cons_succ, i64_w, i32_w]
          rfl
         refine done_ (done_of HT_.out (by kernel_rfl)) ?_
         try go_wp2_with (first | ((with_reducible refine gate_callee (f := 34) rfl ?_); refine goesL_ (some 42) rfl rfl Try.func34 (by kernel_rfl) rfl #[.int .i64 4, .int .i64 (Int.tmod (wrap64 (a1)) 1073741789)] rfl (by (try simp only [List.map_toArray, List.map_cons, List.map_nil]); first | done | rfl | (simp only [List.length_drop, List.length_take]; rfl)) ?_; (with_reducible refine (group_Pow.calls 4 (Int.tmod (wrap64 (a1)) 1073741789) t1203 t1204 _ A11.out).mono ?_); rintro e w27 ⟨rfl, hb⟩; refine ⟨_, rfl, ?_⟩; have n0_ := Aside0.mk (Kd.R_below (by (with_reducible repeat (first | apply Kd.R_alloc | apply Kd.R_drewN | apply Kd.R_drew)); exact HO1195.out) hb); have n1_ := Aside0.mk (Kd.R_below (by (with_reducible repeat (first | apply Kd.R_alloc | apply Kd.R_drewN | apply Kd.R_drew)); exact HO1198.out) hb); have n2_ := Aside0.mk (Kd.R_below (by (with_reducible repeat (first | apply Kd.R_alloc | apply Kd.R_drewN | apply Kd.R_drew)); exact HO1201.out) hb); have n3_ := Aside0.mk (blk_below (g := gb1190) (o := .cells #[.slice A0_0 l0_0.length c0_0, .slice A0_1 l0_1.length c0_1] 25 (0, 0)) (by (with_reducible repeat (first | refine blk_drewN ?_ _ | refine blk_drew ?_ | refine blk_alloc ?_ _)); exact BK1190.out) hb); have n4_ := Aside0.mk (below_step (by repeat (first | (with_reducible first | exact HB.out | apply below_alloc | apply pw_below_drewN | apply below_drew1 | refine below_set ?_ GE1190.out) | exact HB.out)) hb); clear HO1195; clear HO1198; clear HO1201; clear BK1190; clear HB; have HO1195 := n0_; have HO1198 := n1_; have HO1201 := n2_; have BK1190 := n3_; have HB := n4_; clear n0_ n1_ n2_ n3_ n4_; (try clear hb); (try clear hb2); (try clear hk); (try clear hi); obtain ⟨Ao28, co28, eo28⟩ := Kd.R_slice HO1198.out; subst eo28; have hcz29_0 : w27.cell? ⟨gb1190, 0, none⟩ = some (.slice A0_0 l0_0.length c0_0) := (blk_cell BK1190.out 0).trans rfl; have hcz29_1 : w27.cell? ⟨gb1190, 1, none⟩ = some (.slice A0_1 l0_1.length c0_1) := (blk_cell BK1190.out 1).trans rfl; have hfz29_0 := blk_frozen BK1190.out 0; have hfz29_1 := blk_frozen BK1190.out 1; obtain ⟨Ao30, co30, eo30⟩ := Kd.R_slice HO1201.out; subst eo30) | (go_at_call 35; (with_reducible refine (signatoryref34_Columns.calls _ _ l0_0 _ _ l0_1 t1205 _ ?side1 ?side2 ?side3 ?side4 A15.out).mono ?_); (case side1 => repeat (first | exact (Kd.C_below HR0_0.out HB.out) | (with_reducible refine Kd.C_alloc ?_ _) | (with_reducible refine Kd.C_drewN ?_ _) | (with_reducible refine Kd.C_drew ?_))); (case side2 => exact HC0_0.out); (case side3 => repeat (first | exact (Kd.C_below HR0_1.out HB.out) | (with_reducible refine Kd.C_alloc ?_ _) | (with_reducible refine Kd.C_drewN ?_ _) | (with_reducible refine Kd.C_drew ?_))); (case side4 => exact HC0_1.out); rintro e w31 ⟨rfl, hb⟩; have n0_ := Aside0.mk (Kd.R_below (by (with_reducible repeat (first | apply Kd.R_alloc | apply Kd.R_drewN | apply Kd.R_drew)); exact HO1195.out) hb); have n1_ := Aside0.mk (Kd.R_below (by (with_reducible repeat (first | apply Kd.R_alloc | apply Kd.R_drewN | apply Kd.R_drew)); exact HO1198.out) hb); have n2_ := Aside0.mk (Kd.R_below (by (with_reducible repeat (first | apply Kd.R_alloc | apply Kd.R_drewN | apply Kd.R_drew)); exact HO1201.out) hb); have n3_ := Aside0.mk (blk_below (g := gb1190) (o := .cells #[.slice A0_0 l0_0.length c0_0, .slice A0_1 l0_1.length c0_1] 25 (0, 0)) (by (with_reducible repeat (first | refine blk_drewN ?_ _ | refine blk_drew ?_ | refine blk_alloc ?_ _)); exact BK1190.out) hb); have n4_ := Aside0.mk (below_step (by repeat (first | (with_reducible first | exact HB.out | apply below_alloc | apply pw_below_drewN | apply below_drew1 | refine below_set ?_ GE1190.out) | exact HB.out)) hb); clear HO1195; clear HO1198; clear HO1201; clear BK1190; clear HB; have HO1195 := n0_; have HO1198 := n1_; have HO1201 := n2_; have BK1190 := n3_; have HB := n4_; clear n0_ n1_ n2_ n3_ n4_; (try clear hb); (try clear hb2); (try clear hk); (try clear hi); have p1206 : 0 ≤ (0 : Int) := (by omega); have q1206 : 0 < (t1199.length : Int) := of_decide_eq_true (by first | (with_reducible assumption) | assumption); obtain ⟨ad1206, e1206, hx1206_0⟩ := Kd.at_int (Kd.R_reads' HO1201.out).2.2 0 p1206 q1206; cases e1206; have qi1206 : (0 < t1199.length) = True := eq_true (by omega); (try rw [show ((0 : Int)).toNat = 0 from rfl] at hx1206_0); (try rw [Addr.add_zero'] at hx1206_0); replace p1206 := eq_true p1206; replace q1206 := eq_true q1206))
         go_loopg [75] k (fun kq v75 w' => ∃ (x75_1 : Int), v75 = .int .i64 x75_1 ∧ Aside0 (signatorylaw34_DealingFits.l0 kq a3 t1199 t1196 (t1196.length : Int) x75_1 l0_0 l0_1 = some r) ∧ Aside0 (kq ≤ k) ∧ Aside0 (Kd.R (Kd.int .i64) 3 w' w.heap.size (fun _ => True) (.slice (some ad1206) t1199.length co30) t1199) ∧ Aside0 (Kd.R k38 38 w' w.heap.size (fun _ => True) (.slice Ao28 t1196.length co28) t1196) ∧ Aside0 (w'.heap[gb1190]? = some (.cells #[(.slice A0_0 l0_0.length c0_0), (.slice A0_1 l0_1.length c0_1)] 25 (0, 0))) ∧ Aside0 (Below w.heap.size w w'))
         case atStart => exact ⟨(0), (by first | rfl | (simp; done) | (simp [*]; done)), H', ⟨Nat.le_refl _⟩, ⟨by (with_reducible repeat (first | apply Kd.R_alloc | apply Kd.R_drewN | apply Kd.R_drew)); exact Kd.R_mono HO1201.out (fun _ hk => trivial)⟩, ⟨by (with_reducible repeat (first | apply Kd.R_alloc | apply Kd.R_drewN | apply Kd.R_drew)); exact HO1198.out⟩, ⟨by (with_reducible repeat (first | refine blk_drewN ?_ _ | refine blk_drew ?_ | refine blk_alloc ?_ _)); exact BK1190.out⟩, ⟨by repeat (first | (with_reducible first | exact HB.out | apply below_alloc | apply pw_below_drewN | apply below_drew1 | refine below_set ?_ GE1190.out) | exact HB.out)⟩⟩
         case round =>
          clear H'
          try clear c1
          try clear p1
          try clear q1
          try clear hx1
          try clear qi1
          try clear c2
          try clear p2
          try clear c3
          try clear c5
          try clear c6
          try clear p6
          try clear c8
          try clear c12
          try clear c12b0
          try clear c12b1
          try clear p12
          try clear q12
          try clear hx12
          try clear qi12
          try clear c13
          try clear c13b0
          try clear c13b1
          try clear c14
          try clear c14b0
          try clear c14b1
          try clear c14b2
          try clear c16
          try clear c16b0
          try clear c16b1
          try clear c17
          try clear c17b0
          try clear c17b1
          try clear c18
          try clear c18b0
          try clear c18b1
          try clear c20
          try clear c22
          try clear hcz21_0
          try clear hcz21_1
          try clear hcz29_0
          try clear hcz29_1
          try clear hfz21_0
          try clear hfz21_1
          try clear hfz29_0
          try clear hfz29_1
          try clear hx1206_0
          try clear p1206
          try clear q1206
          obtain ⟨x75_1, rfl, HA, HK1, HO_11, HO_73, BK1190, HB⟩ := hrel
          cases gk with
          | zero => exact absurd HA.out (by simp [signatorylaw34_DealingFits.l0])
          | succ k1 =>
           have H := HA.out
           clear HA
           simp only [signatorylaw34_DealingFits.l0] at H
           by_cases c32 : x75_1 < (t1196.length : Int)
           ·rw [if_pos c32] at H
            have c32b0 : decide (x75_1 < (t1196.length : Int)) = true := decide_eq_true c32
            clear c32
            by_cases c33 : 0 ≤ x75_1
            ·rw [if_pos c33] at H
             have c33b0 : decide (0 ≤ x75_1) = true := decide_eq_true c33
             clear c33
             by_cases c34 : x75_1 < (t1196.length : Int)
             ·rw [if_pos c34] at H
              have c34b0 : decide (x75_1 < (t1196.length : Int)) = true := decide_eq_true c34
              clear c34
              replace H := Option.bind_eq_some_iff.mp H
              obtain ⟨⟨t1209, t1210⟩, A350, H⟩ := H
              replace H : ((dealing_Fits.f k1 l0_0 l0_1 t1199 ((rd_T38 t1196 x75_1).f0) (Int.tmod (wrap64 (a3)) 1073741789)).bind fun bt1212 => (if t1210 = 0 then (if bt1212.2 = 0 then (if t1209 = true then (if (bt1212.1 != (((rd_T38 t1196 x75_1).f1) == (Int.tmod (wrap64 (a3)) 1073741789))) = true then (none) else (signatorylaw34_DealingFits.l0 k1 a3 t1199 t1196 (t1196.length : Int) (wrap64 (x75_1 + 1)) l0_0 l0_1)) else (none)) else (none)) else (none))) = some r := H
              have A35 := Aside0.mk A350
              clear A350
              replace H := Option.bind_eq_some_iff.mp H
              obtain ⟨⟨t1212, t1213⟩, A360, H⟩ := H
              replace H : (if t1210 = 0 then (if t1213 = 0 then (if t1209 = true then (if (t1212 != (((rd_T38 t1196 x75_1).f1) == (Int.tmod (wrap64 (a3)) 1073741789))) = true then (none) else (signatorylaw34_DealingFits.l0 k1 a3 t1199 t1196 (t1196.length : Int) (wrap64 (x75_1 + 1)) l0_0 l0_1)) else (none)) else (none)) else (none)) = some r := H
              have A36 := Aside0.mk A360
              clear A360
              by_cases c37 : t1210 = 0
              ·rw [if_pos c37] at H
               have c37b0 : (t1210 == 0) = true := beq_iff_eq.mpr c37
               have c37b1 : (t1210 != 0) = false := bne_eq_false_iff_eq.mpr c37
               clear c37
               by_cases c38 : t1213 = 0
               ·rw [if_pos c38] at H
                have c38b0 : (t1213 == 0) = true := beq_iff_eq.mpr c38
                have c38b1 : (t1213 != 0) = false := bne_eq_false_iff_eq.mpr c38
                clear c38
                by_cases c39 : t1209 = true
                ·subst c39
                 have H1 : (if (t1212 != (((rd_T38 t1196 x75_1).f1) == (Int.tmod (wrap64 (a3)) 1073741789))) = true then (none) else (signatorylaw34_DealingFits.l0 k1 a3 t1199 t1196 (t1196.length : Int) (wrap64 (x75_1 + 1)) l0_0 l0_1)) = some r := by rw [if_pos rfl] at H; exact H
                 clear H
                 have H := H1
                 clear H1
                 by_cases c40 : (t1212 != (((rd_T38 t1196 x75_1).f1) == (Int.tmod (wrap64 (a3)) 1073741789))) = true
                 ·rw [if_pos c40] at H
                  exact absurd H (by simp)
                 ·rw [if_neg c40] at H
                  have c40b0 : (t1212 != (((rd_T38 t1196 x75_1).f1) == (Int.tmod (wrap64 (a3)) 1073741789))) = false := by simpa using c40
                  (try (have c40b1 : decide (t1212 = (((rd_T38 t1196 x75_1).f1) == (Int.tmod (wrap64 (a3)) 1073741789))) = true := by simpa using c40))
                  (try (have c40b2 : (t1212 == (((rd_T38 t1196 x75_1).f1) == (Int.tmod (wrap64 (a3)) 1073741789))) = true := by simpa using c40))
                  clear c40
                  have H' := Aside0.mk H
                  clear H
                  have p1207 : 0 ≤ (x75_1 : Int) := of_decide_eq_true (by first | (with_reducible assumption) | assumption)
                  have q1207 : x75_1 < (t1196.length : Int) := of_decide_eq_true (by first | (with_reducible assumption) | assumption)
                  obtain ⟨ad1207, e1207, hx1207_0, hx1207_1⟩ := at_T38 (Kd.R_reads' HO_73.out).2.2 x75_1 p1207 q1207
                  cases e1207
                  replace p1207 := eq_true p1207
                  replace q1207 := eq_true q1207
                  go_wp2_with (first | ((with_reducible refine gate_dst (N := 16) rfl ?_); (try (refine gate_guard (by rfl) ?_; dsimp only)); refine box_event ?hg (N := 16) ?hd (cs := #[.int .i64 0, .int .i64 0]) (t := 38) ?hr ?_; (case hd => rfl); (case hg => rfl); (case hr => first | (go_simp; done) | (go_simp; rfl)); intro gb1208 hg w41 hbox hb; have n0_ := Aside0.mk (Kd.R_below (by (with_reducible repeat (first | apply Kd.R_alloc | apply Kd.R_drewN | apply Kd.R_drew)); exact HO_11.out) hb); have n1_ := Aside0.mk (Kd.R_below (Kd.R_elderB (by (with_reducible repeat (first | apply Kd.R_alloc | apply Kd.R_drewN | apply Kd.R_drew)); exact HO_73.out) gb1208 (Nat.le_of_eq hg.symm)) hb); have n2_ := Aside0.mk (blk_below (g := gb1190) (o := .cells #[.slice A0_0 l0_0.length c0_0, .slice A0_1 l0_1.length c0_1] 25 (0, 0)) (by (with_reducible repeat (first | refine blk_drewN ?_ _ | refine blk_drew ?_ | refine blk_alloc ?_ _)); exact BK1190.out) hb); have n3_ := Aside0.mk (below_step (by repeat (first | (with_reducible first | exact HB.out | apply below_alloc | apply pw_below_drewN | apply below_drew1 | refine below_set ?_ GE1190.out) | exact HB.out)) hb); have n4_ := Aside0.mk (hbox); have n5_ := Aside0.mk ((by rw [hg]; exact (below_size (by repeat (first | (with_reducible first | exact HB.out | apply below_alloc | apply pw_below_drewN | apply below_drew1 | refine below_set ?_ GE1190.out) | exact HB.out))) : w.heap.size ≤ gb1208)); have n6_ := Aside0.mk ((by rw [hg]; exact (below_size (by repeat (first | (with_reducible first | exact HB.out | apply below_alloc | apply pw_below_drewN | apply below_drew1 | refine below_set ?_ GE1190.out) | exact HB.out))) : w.heap.size ≤ gb1208)); have n7_ := Aside0.mk ((by rw [hg]; exact Nat.ne_of_lt (blk_lt (g := gb1190) (o := .cells #[.slice A0_0 l0_0.length c0_0, .slice A0_1 l0_1.length c0_1] 25 (0, 0)) (by (with_reducible repeat (first | refine blk_drewN ?_ _ | refine blk_drew ?_ | refine blk_alloc ?_ _)); exact BK1190.out)) : gb1190 ≠ gb1208)); have n8_ := Aside0.mk ((by rw [hg]; exact Nat.ne_of_gt (blk_lt (g := gb1190) (o := .cells #[.slice A0_0 l0_0.length c0_0, .slice A0_1 l0_1.length c0_1] 25 (0, 0)) (by (with_reducible repeat (first | refine blk_drewN ?_ _ | refine blk_drew ?_ | refine blk_alloc ?_ _)); exact BK1190.out)) : gb1208 ≠ gb1190)); clear HO_11; clear HO_73; clear BK1190; clear HB; have HO_11 := n0_; have HO_73 := n1_; have BK1190 := n2_; have HB := n3_; have BK1208 := n4_; have GW1208 := n5_; have GE1208 := n6_; have NB1190_1208 := n7_; have NB1208_1190 := n8_; clear n0_ n1_ n2_ n3_ n4_ n5_ n6_ n7_ n8_; clear hb hbox hg; have hnb42 := NB1208_1190.out; have hnc42 := NB1190_1208.out; have hcz43_0 : w41.cell? ⟨gb1208, 0, none⟩ = some (.int .i64 0) := (blk_cell BK1208.out 0).trans rfl; have hcz43_1 : w41.cell? ⟨gb1208, 1, none⟩ = some (.int .i64 0) := (blk_cell BK1208.out 1).trans rfl; have hfz43_0 := blk_frozen BK1208.out 0; have hfz43_1 := blk_frozen BK1208.out 1; have hcz44_0 : w41.cell? ⟨gb1190, 0, none⟩ = some (.slice A0_0 l0_0.length c0_0) := (blk_cell BK1190.out 0).trans rfl; have hcz44_1 : w41.cell? ⟨gb1190, 1, none⟩ = some (.slice A0_1 l0_1.length c0_1) := (blk_cell BK1190.out 1).trans rfl; have hfz44_0 := blk_frozen BK1190.out 0; have hfz44_1 := blk_frozen BK1190.out 1) | ((with_reducible refine gate_callee (f := 30) rfl ?_); refine goesL_ (some 83) rfl rfl Try.func30 (by kernel_rfl) rfl #[.agg #[.slice A0_0 l0_0.length c0_0, .slice A0_1 l0_1.length c0_1], .slice (some ad1206) t1199.length co30, .agg #[.int .i64 ((rd_T38 t1196 x75_1).f0), .int .i64 ((rd_T38 t1196 x75_1).f1)]] rfl (by (try simp only [List.map_toArray, List.map_cons, List.map_nil]); first | done | rfl | (simp only [List.length_drop, List.length_take]; rfl)) ?_; (with_reducible refine (dealing_Fits.calls k1 _ _ l0_0 _ _ l0_1 _ _ t1199 ((rd_T38 t1196 x75_1).f0) ((rd_T38 t1196 x75_1).f1) true t1210 _ ?side1 ?side2 ?side3 ?side4 ?side5 ?side6 A35.out).mono ?_); (case side1 => exact Kd.C_below HR0_0.out (by repeat (first | (with_reducible first | exact HB.out | apply below_alloc | apply pw_below_drewN | apply below_drew1 | refine below_set ?_ GE1190.out | refine below_set ?_ GE1208.out) | exact HB.out))); (case side2 => exact HC0_0.out); (case side3 => exact Kd.C_below HR0_1.out (by repeat (first | (with_reducible first | exact HB.out | apply below_alloc | apply pw_below_drewN | apply below_drew1 | refine below_set ?_ GE1190.out | refine below_set ?_ GE1208.out) | exact HB.out))); (case side4 => exact HC0_1.out); (case side5 => refine (Kd.R_reads' (e := 3) (base := w.heap.size) (ok := fun k_ => True) (n := t1199.length) (c := co30) ?_).2.2; exact (by (with_reducible repeat (first | apply Kd.R_alloc | apply Kd.R_drewN | apply Kd.R_drew)); exact (Kd.R_mono (Kd.R_far (p := ⟨gb1208, 1, none⟩) (Kd.R_far (p := ⟨gb1208, 0, none⟩) (Kd.R_types HO_11.out BK1208.out (by decide)) (fun _ hk => hk.2) (.int .i64 ((rd_T38 t1196 x75_1).f0))) (fun _ hk => hk.2) (.int .i64 ((rd_T38 t1196 x75_1).f1))) (fun _ h_ => h_.1)))); (case side6 => exact (Kd.R_reads' HO_11.out).2.1); rintro e w45 ⟨rfl, hb⟩; refine ⟨_, rfl, ?_⟩; have n0_ := Aside0.mk (Kd.R_below (by (with_reducible repeat (first | apply Kd.R_alloc | apply Kd.R_drewN | apply Kd.R_drew)); exact (Kd.R_mono (Kd.R_far (p := ⟨gb1208, 1, none⟩) (Kd.R_far (p := ⟨gb1208, 0, none⟩) (Kd.R_types HO_11.out BK1208.out (by decide)) (fun _ hk => hk.2) (.int .i64 ((rd_T38 t1196 x75_1).f0))) (fun _ hk => hk.2) (.int .i64 ((rd_T38 t1196 x75_1).f1))) (fun _ h_ => h_.1))) hb); have n1_ := Aside0.mk (Kd.R_below (by (with_reducible repeat (first | apply Kd.R_alloc | apply Kd.R_drewN | apply Kd.R_drew)); exact (Kd.R_mono (Kd.R_far (p := ⟨gb1208, 1, none⟩) (Kd.R_far (p := ⟨gb1208, 0, none⟩) (Kd.R_mono HO_73.out (fun k_ hk => (⟨hk, hk.2⟩ : _ ∧ k_ ≠ gb1208))) (fun _ hk => hk.2) (.int .i64 ((rd_T38 t1196 x75_1).f0))) (fun _ hk => hk.2) (.int .i64 ((rd_T38 t1196 x75_1).f1))) (fun _ h_ => h_.1))) hb); have n2_ := Aside0.mk (blk_below (g := gb1190) (o := .cells #[.slice A0_0 l0_0.length c0_0, .slice A0_1 l0_1.length c0_1] 25 (0, 0)) (by (with_reducible repeat (first | refine blk_drewN ?_ _ | refine blk_drew ?_ | refine blk_alloc ?_ _)); refine blk_far ?_ NB1190_1208.out _; (with_reducible repeat (first | refine blk_drewN ?_ _ | refine blk_drew ?_ | refine blk_alloc ?_ _)); refine blk_far ?_ NB1190_1208.out _; (with_reducible repeat (first | refine blk_drewN ?_ _ | refine blk_drew ?_ | refine blk_alloc ?_ _)); exact BK1190.out) hb); have n3_ := Aside0.mk (blk_below (g := gb1208) (o := .cells #[.int .i64 ((rd_T38 t1196 x75_1).f0), .int .i64 ((rd_T38 t1196 x75_1).f1)] 38 (0, 0)) (by (with_reducible repeat (first | refine blk_drewN ?_ _ | refine blk_drew ?_ | refine blk_alloc ?_ _)); refine blk_put (cs := #[.int .i64 ((rd_T38 t1196 x75_1).f0), .int .i64 0]) ?_ 1 _ rfl; (with_reducible repeat (first | refine blk_drewN ?_ _ | refine blk_drew ?_ | refine blk_alloc ?_ _)); refine blk_put (cs := #[.int .i64 0, .int .i64 0]) ?_ 0 _ rfl; (with_reducible repeat (first | refine blk_drewN ?_ _ | refine blk_drew ?_ | refine blk_alloc ?_ _)); exact BK1208.out) hb); have n4_ := Aside0.mk (below_step (by repeat (first | (with_reducible first | exact HB.out | apply below_alloc | apply pw_below_drewN | apply below_drew1 | refine below_set ?_ GE1190.out | refine below_set ?_ GE1208.out) | exact HB.out)) hb); clear HO_11; clear HO_73; clear BK1190; clear BK1208; clear HB; have HO_11 := n0_; have HO_73 := n1_; have BK1190 := n2_; have BK1208 := n3_; have HB := n4_; clear n0_ n1_ n2_ n3_ n4_; (try clear hb); (try clear hb2); (try clear hk); (try clear hi); have hcz46_0 : w45.cell? ⟨gb1208, 0, none⟩ = some (.int .i64 ((rd_T38 t1196 x75_1).f0)) := (blk_cell BK1208.out 0).trans rfl; have hcz46_1 : w45.cell? ⟨gb1208, 1, none⟩ = some (.int .i64 ((rd_T38 t1196 x75_1).f1)) := (blk_cell BK1208.out 1).trans rfl; have hfz46_0 := blk_frozen BK1208.out 0; have hfz46_1 := blk_frozen BK1208.out 1) | ((with_reducible refine gate_dst (N := 19) rfl ?_); (try (refine gate_guard (by rfl) ?_; dsimp only)); refine box_event ?hg (N := 19) ?hd (cs := #[.int .i64 0, .int .i64 0]) (t := 38) ?hr ?_; (case hd => rfl); (case hg => rfl); (case hr => first | (go_simp; done) | (go_simp; rfl)); intro gb1211 hg w47 hbox hb; have n0_ := Aside0.mk (Kd.R_below (by (with_reducible repeat (first | apply Kd.R_alloc | apply Kd.R_drewN | apply Kd.R_drew)); exact HO_11.out) hb); have n1_ := Aside0.mk (Kd.R_below (Kd.R_elderB (by (with_reducible repeat (first | apply Kd.R_alloc | apply Kd.R_drewN | apply Kd.R_drew)); exact HO_73.out) gb1211 (Nat.le_of_eq hg.symm)) hb); have n2_ := Aside0.mk (blk_below (g := gb1190) (o := .cells #[.slice A0_0 l0_0.length c0_0, .slice A0_1 l0_1.length c0_1] 25 (0, 0)) (by (with_reducible repeat (first | refine blk_drewN ?_ _ | refine blk_drew ?_ | refine blk_alloc ?_ _)); exact BK1190.out) hb); have n3_ := Aside0.mk (blk_below (g := gb1208) (o := .cells #[.int .i64 ((rd_T38 t1196 x75_1).f0), .int .i64 ((rd_T38 t1196 x75_1).f1)] 38 (0, 0)) (by (with_reducible repeat (first | refine blk_drewN ?_ _ | refine blk_drew ?_ | refine blk_alloc ?_ _)); exact BK1208.out) hb); have n4_ := Aside0.mk (below_step (by repeat (first | (with_reducible first | exact HB.out | apply below_alloc | apply pw_below_drewN | apply below_drew1 | refine below_set ?_ GE1190.out | refine below_set ?_ GE1208.out) | exact HB.out)) hb); have n5_ := Aside0.mk (hbox); have n6_ := Aside0.mk ((by rw [hg]; exact (below_size (by repeat (first | (with_reducible first | exact HB.out | apply below_alloc | apply pw_below_drewN | apply below_drew1 | refine below_set ?_ GE1190.out | refine below_set ?_ GE1208.out) | exact HB.out))) : w.heap.size ≤ gb1211)); have n7_ := Aside0.mk ((by rw [hg]; exact (below_size (by repeat (first | (with_reducible first | exact HB.out | apply below_alloc | apply pw_below_drewN | apply below_drew1 | refine below_set ?_ GE1190.out | refine below_set ?_ GE1208.out) | exact HB.out))) : w.heap.size ≤ gb1211)); have n8_ := Aside0.mk ((by rw [hg]; exact Nat.ne_of_lt (blk_lt (g := gb1190) (o := .cells #[.slice A0_0 l0_0.length c0_0, .slice A0_1 l0_1.length c0_1] 25 (0, 0)) (by (with_reducible repeat (first | refine blk_drewN ?_ _ | refine blk_drew ?_ | refine blk_alloc ?_ _)); exact BK1190.out)) : gb1190 ≠ gb1211)); have n9_ := Aside0.mk ((by rw [hg]; exact Nat.ne_of_gt (blk_lt (g := gb1190) (o := .cells #[.slice A0_0 l0_0.length c0_0, .slice A0_1 l0_1.length c0_1] 25 (0, 0)) (by (with_reducible repeat (first | refine blk_drewN ?_ _ | refine blk_drew ?_ | refine blk_alloc ?_ _)); exact BK1190.out)) : gb1211 ≠ gb1190)); have n10_ := Aside0.mk ((by rw [hg]; exact Nat.ne_of_lt (blk_lt (g := gb1208) (o := .cells #[.int .i64 ((rd_T38 t1196 x75_1).f0), .int .i64 ((rd_T38 t1196 x75_1).f1)] 38 (0, 0)) (by (with_reducible repeat (first | refine blk_drewN ?_ _ | refine blk_drew ?_ | refine blk_alloc ?_ _)); exact BK1208.out)) : gb1208 ≠ gb1211)); have n11_ := Aside0.mk ((by rw [hg]; exact Nat.ne_of_gt (blk_lt (g := gb1208) (o := .cells #[.int .i64 ((rd_T38 t1196 x75_1).f0), .int .i64 ((rd_T38 t1196 x75_1).f1)] 38 (0, 0)) (by (with_reducible repeat (first | refine blk_drewN ?_ _ | refine blk_drew ?_ | refine blk_alloc ?_ _)); exact BK1208.out)) : gb1211 ≠ gb1208)); clear HO_11; clear HO_73; clear BK1190; clear BK1208; clear HB; have HO_11 := n0_; have HO_73 := n1_; have BK1190 := n2_; have BK1208 := n3_; have HB := n4_; have BK1211 := n5_; have GW1211 := n6_; have GE1211 := n7_; have NB1190_1211 := n8_; have NB1211_1190 := n9_; have NB1208_1211 := n10_; have NB1211_1208 := n11_; clear n0_ n1_ n2_ n3_ n4_ n5_ n6_ n7_ n8_ n9_ n10_ n11_; clear hb hbox hg; have hnb48 := NB1211_1190.out; have hnc48 := NB1190_1211.out; have hnb49 := NB1211_1208.out; have hnc49 := NB1208_1211.out; have hcz50_0 : w47.cell? ⟨gb1211, 0, none⟩ = some (.int .i64 0) := (blk_cell BK1211.out 0).trans rfl; have hcz50_1 : w47.cell? ⟨gb1211, 1, none⟩ = some (.int .i64 0) := (blk_cell BK1211.out 1).trans rfl; have hfz50_0 := blk_frozen BK1211.out 0; have hfz50_1 := blk_frozen BK1211.out 1; have hcz51_0 : w47.cell? ⟨gb1190, 0, none⟩ = some (.slice A0_0 l0_0.length c0_0) := (blk_cell BK1190.out 0).trans rfl; have hcz51_1 : w47.cell? ⟨gb1190, 1, none⟩ = some (.slice A0_1 l0_1.length c0_1) := (blk_cell BK1190.out 1).trans rfl; have hfz51_0 := blk_frozen BK1190.out 0; have hfz51_1 := blk_frozen BK1190.out 1) | ((with_reducible refine gate_callee (f := 30) rfl ?_); refine goesL_ (some 96) rfl rfl Try.func30 (by kernel_rfl) rfl #[.agg #[.slice A0_0 l0_0.length c0_0, .slice A0_1 l0_1.length c0_1], .slice (some ad1206) t1199.length co30, .agg #[.int .i64 ((rd_T38 t1196 x75_1).f0), .int .i64 (Int.tmod (wrap64 (a3)) 1073741789)]] rfl (by (try simp only [List.map_toArray, List.map_cons, List.map_nil]); first | done | rfl | (simp only [List.length_drop, List.length_take]; rfl)) ?_; (with_reducible refine (dealing_Fits.calls k1 _ _ l0_0 _ _ l0_1 _ _ t1199 ((rd_T38 t1196 x75_1).f0) (Int.tmod (wrap64 (a3)) 1073741789) t1212 t1213 _ ?side1 ?side2 ?side3 ?side4 ?side5 ?side6 A36.out).mono ?_); (case side1 => exact Kd.C_below HR0_0.out (by repeat (first | (with_reducible first | exact HB.out | apply below_alloc | apply pw_below_drewN | apply below_drew1 | refine below_set ?_ GE1190.out | refine below_set ?_ GE1208.out | refine below_set ?_ GE1211.out) | exact HB.out))); (case side2 => exact HC0_0.out); (case side3 => exact Kd.C_below HR0_1.out (by repeat (first | (with_reducible first | exact HB.out | apply below_alloc | apply pw_below_drewN | apply below_drew1 | refine below_set ?_ GE1190.out | refine below_set ?_ GE1208.out | refine below_set ?_ GE1211.out) | exact HB.out))); (case side4 => exact HC0_1.out); (case side5 => refine (Kd.R_reads' (e := 3) (base := w.heap.size) (ok := fun k_ => True) (n := t1199.length) (c := co30) ?_).2.2; exact (by (with_reducible repeat (first | apply Kd.R_alloc | apply Kd.R_drewN | apply Kd.R_drew)); exact (Kd.R_mono (Kd.R_far (p := ⟨gb1211, 1, none⟩) (Kd.R_far (p := ⟨gb1211, 0, none⟩) (Kd.R_types HO_11.out BK1211.out (by decide)) (fun _ hk => hk.2) (.int .i64 ((rd_T38 t1196 x75_1).f0))) (fun _ hk => hk.2) (.int .i64 (Int.tmod (wrap64 (a3)) 1073741789))) (fun _ h_ => h_.1)))); (case side6 => exact (Kd.R_reads' HO_11.out).2.1); rintro e w52 ⟨rfl, hb⟩; refine ⟨_, rfl, ?_⟩; have n0_ := Aside0.mk (Kd.R_below (by (with_reducible repeat (first | apply Kd.R_alloc | apply Kd.R_drewN | apply Kd.R_drew)); exact (Kd.R_mono (Kd.R_far (p := ⟨gb1211, 1, none⟩) (Kd.R_far (p := ⟨gb1211, 0, none⟩) (Kd.R_types HO_11.out BK1211.out (by decide)) (fun _ hk => hk.2) (.int .i64 ((rd_T38 t1196 x75_1).f0))) (fun _ hk => hk.2) (.int .i64 (Int.tmod (wrap64 (a3)) 1073741789))) (fun _ h_ => h_.1))) hb); have n1_ := Aside0.mk (Kd.R_below (by (with_reducible repeat (first | apply Kd.R_alloc | apply Kd.R_drewN | apply Kd.R_drew)); exact (Kd.R_mono (Kd.R_far (p := ⟨gb1211, 1, none⟩) (Kd.R_far (p := ⟨gb1211, 0, none⟩) (Kd.R_mono HO_73.out (fun k_ hk => (⟨hk, hk.2⟩ : _ ∧ k_ ≠ gb1211))) (fun _ hk => hk.2) (.int .i64 ((rd_T38 t1196 x75_1).f0))) (fun _ hk => hk.2) (.int .i64 (Int.tmod (wrap64 (a3)) 1073741789))) (fun _ h_ => h_.1))) hb); have n2_ := Aside0.mk (blk_below (g := gb1190) (o := .cells #[.slice A0_0 l0_0.length c0_0, .slice A0_1 l0_1.length c0_1] 25 (0, 0)) (by (with_reducible repeat (first | refine blk_drewN ?_ _ | refine blk_drew ?_ | refine blk_alloc ?_ _)); refine blk_far ?_ NB1190_1211.out _; (with_reducible repeat (first | refine blk_drewN ?_ _ | refine blk_drew ?_ | refine blk_alloc ?_ _)); refine blk_far ?_ NB1190_1211.out _; (with_reducible repeat (first | refine blk_drewN ?_ _ | refine blk_drew ?_ | refine blk_alloc ?_ _)); exact BK1190.out) hb); have n3_ := Aside0.mk (blk_below (g := gb1208) (o := .cells #[.int .i64 ((rd_T38 t1196 x75_1).f0), .int .i64 ((rd_T38 t1196 x75_1).f1)] 38 (0, 0)) (by (with_reducible repeat (first | refine blk_drewN ?_ _ | refine blk_drew ?_ | refine blk_alloc ?_ _)); refine blk_far ?_ NB1208_1211.out _; (with_reducible repeat (first | refine blk_drewN ?_ _ | refine blk_drew ?_ | refine blk_alloc ?_ _)); refine blk_far ?_ NB1208_1211.out _; (with_reducible repeat (first | refine blk_drewN ?_ _ | refine blk_drew ?_ | refine blk_alloc ?_ _)); exact BK1208.out) hb); have n4_ := Aside0.mk (blk_below (g := gb1211) (o := .cells #[.int .i64 ((rd_T38 t1196 x75_1).f0), .int .i64 (Int.tmod (wrap64 (a3)) 1073741789)] 38 (0, 0)) (by (with_reducible repeat (first | refine blk_drewN ?_ _ | refine blk_drew ?_ | refine blk_alloc ?_ _)); refine blk_put (cs := #[.int .i64 ((rd_T38 t1196 x75_1).f0), .int .i64 0]) ?_ 1 _ rfl; (with_reducible repeat (first | refine blk_drewN ?_ _ | refine blk_drew ?_ | refine blk_alloc ?_ _)); refine blk_put (cs := #[.int .i64 0, .int .i64 0]) ?_ 0 _ rfl; (with_reducible repeat (first | refine blk_drewN ?_ _ | refine blk_drew ?_ | refine blk_alloc ?_ _)); exact BK1211.out) hb); have n5_ := Aside0.mk (below_step (by repeat (first | (with_reducible first | exact HB.out | apply below_alloc | apply pw_below_drewN | apply below_drew1 | refine below_set ?_ GE1190.out | refine below_set ?_ GE1208.out | refine below_set ?_ GE1211.out) | exact HB.out)) hb); clear HO_11; clear HO_73; clear BK1190; clear BK1208; clear BK1211; clear HB; have HO_11 := n0_; have HO_73 := n1_; have BK1190 := n2_; have BK1208 := n3_; have BK1211 := n4_; have HB := n5_; clear n0_ n1_ n2_ n3_ n4_ n5_; (try clear hb); (try clear hb2); (try clear hk); (try clear hi); have hcz53_0 : w52.cell? ⟨gb1208, 0, none⟩ = some (.int .i64 ((rd_T38 t1196 x75_1).f0)) := (blk_cell BK1208.out 0).trans rfl; have hcz53_1 : w52.cell? ⟨gb1208, 1, none⟩ = some (.int .i64 ((rd_T38 t1196 x75_1).f1)) := (blk_cell BK1208.out 1).trans rfl; have hfz53_0 := blk_frozen BK1208.out 0; have hfz53_1 := blk_frozen BK1208.out 1; have hcz54_0 : w52.cell? ⟨gb1211, 0, none⟩ = some (.int .i64 ((rd_T38 t1196 x75_1).f0)) := (blk_cell BK1211.out 0).trans rfl; have hcz54_1 : w52.cell? ⟨gb1211, 1, none⟩ = some (.int .i64 (Int.tmod (wrap64 (a3)) 1073741789)) := (blk_cell BK1211.out 1).trans rfl; have hfz54_0 := blk_frozen BK1211.out 0; have hfz54_1 := blk_frozen BK1211.out 1))
                  go_roundg k1
                  case measure => have := HK1.out; omega
                  case rel => exact ⟨(wrap64 (x75_1 + 1)), (by first | rfl | (simp; done) | (simp [*]; done)), H', ⟨by have := HK1.out; omega⟩, ⟨by (with_reducible repeat (first | apply Kd.R_alloc | apply Kd.R_drewN | apply Kd.R_drew)); exact HO_11.out⟩, ⟨by (with_reducible repeat (first | apply Kd.R_alloc | apply Kd.R_drewN | apply Kd.R_drew)); exact Kd.R_mono HO_73.out (fun _ hk => trivial)⟩, ⟨by (with_reducible repeat (first | refine blk_drewN ?_ _ | refine blk_drew ?_ | refine blk_alloc ?_ _)); exact BK1190.out⟩, ⟨by repeat (first | (with_reducible first | exact HB.out | apply below_alloc | apply pw_below_drewN | apply below_drew1 | refine below_set ?_ GE1190.out | refine below_set ?_ GE1208.out | refine below_set ?_ GE1211.out) | exact HB.out)⟩⟩
                ·replace c39 := Bool.eq_false_iff.mpr c39
                 subst c39
                 have H1 : (none) = some r := by rw [if_neg (show ¬ (false = true) by decide)] at H; exact H
                 clear H
                 have H := H1
                 clear H1
                 exact absurd H (by simp)
               ·rw [if_neg c38] at H
                exact absurd H (by simp)
              ·rw [if_neg c37] at H
               exact absurd H (by simp)
             ·rw [if_neg c34] at H
              exact absurd H (by simp)
            ·rw [if_neg c33] at H
             exact absurd H (by simp)
           ·rw [if_neg c32] at H
            have c32b0 : decide (x75_1 < (t1196.length : Int)) = false := decide_eq_false c32
            clear c32
            obtain rfl := Option.some.inj H
            go_wp2
            go_ret
            exact ⟨by first | rfl | (simp [errW_none, errW_some] <;> rfl) | (simp [*, errW_none, errW_some] <;> rfl), by repeat (first | (with_reducible first | exact HB.out | apply below_alloc | apply pw_below_drewN | apply below_drew1 | refine below_set ?_ GE1190.out) | exact HB.out)⟩
        ·rw [if_neg c18] at H
         exact absurd H (by simp)
       ·rw [if_neg c17] at H
        exact absurd H (by simp)
      ·rw [if_neg c16] at H
       exact absurd H (by simp)
     ·rw [if_neg c14] at H
      exact absurd H (by simp)
    ·rw [if_neg c13] at H
     exact absurd H (by simp)
   ·rw [if_neg c12] at H
    exact absurd H (by simp)
  ·replace c8 := Bool.eq_false_iff.mpr c8
   subst c8
   have H1 : (some true) = some r := by rw [if_neg (show ¬ (false = true) by decide)] at H; exact H
   clear H
   have H := H1
   clear H1
   obtain rfl := Option.some.inj H
   go_enter Try.func5, Try.ntmps5
   go_wp2_with (first | ((with_reducible refine gate_dst (N := 4) rfl ?_); (try (refine gate_guard (by rfl) ?_; dsimp only)); refine box_event ?hg (N := 4) ?hd (cs := #[.slice A0_0 l0_0.length c0_0, .slice A0_1 l0_1.length c0_1]) (t := 25) ?hr ?_; (case hd => rfl); (case hg => rfl); (case hr => first | (go_simp; done) | (go_simp; rfl)); intro gb1190 hg w55 hbox hb; have n0_ := Aside0.mk (below_step (by repeat (first | (with_reducible first | exact HB.out | apply below_alloc | apply pw_below_drewN | apply below_drew1) | exact HB.out)) hb); have n1_ := Aside0.mk (hbox); have n2_ := Aside0.mk ((by rw [hg]; exact (below_size (by repeat (first | (with_reducible first | exact HB.out | apply below_alloc | apply pw_below_drewN | apply below_drew1) | exact HB.out))) : w.heap.size ≤ gb1190)); have n3_ := Aside0.mk ((by rw [hg]; exact (below_size (by repeat (first | (with_reducible first | exact HB.out | apply below_alloc | apply pw_below_drewN | apply below_drew1) | exact HB.out))) : w.heap.size ≤ gb1190)); clear HB; have HB := n0_; have BK1190 := n1_; have GW1190 := n2_; have GE1190 := n3_; clear n0_ n1_ n2_ n3_; clear hb hbox hg) | ((with_reducible refine gate_callee (f := 20) rfl ?_); refine goesL_ (some 22) rfl rfl Try.func20 (by kernel_rfl) rfl #[] rfl (by (try simp only [List.map_toArray, List.map_cons, List.map_nil]); first | done | rfl | (simp only [List.length_drop, List.length_take]; rfl)) ?_; (with_reducible refine (signatorylaw34_sane.calls  true _ A5.out).mono ?_); rintro e w56 ⟨rfl, hb⟩; refine ⟨_, rfl, ?_⟩; have n0_ := Aside0.mk (blk_below (g := gb1190) (o := .cells #[.slice A0_0 l0_0.length c0_0, .slice A0_1 l0_1.length c0_1] 25 (0, 0)) (by (with_reducible repeat (first | refine blk_drewN ?_ _ | refine blk_drew ?_ | refine blk_alloc ?_ _)); exact BK1190.out) hb); have n1_ := Aside0.mk (below_step (by repeat (first | (with_reducible first | exact HB.out | apply below_alloc | apply pw_below_drewN | apply below_drew1 | refine below_set ?_ GE1190.out) | exact HB.out)) hb); clear BK1190; clear HB; have BK1190 := n0_; have HB := n1_; clear n0_ n1_; (try clear hb); (try clear hb2); (try clear hk); (try clear hi); have hcz57_0 : w56.cell? ⟨gb1190, 0, none⟩ = some (.slice A0_0 l0_0.length c0_0) := (blk_cell BK1190.out 0).trans rfl; have hcz57_1 : w56.cell? ⟨gb1190, 1, none⟩ = some (.slice A0_1 l0_1.length c0_1) := (blk_cell BK1190.out 1).trans rfl; have hfz57_0 := blk_frozen BK1190.out 0; have hfz57_1 := blk_frozen BK1190.out 1) | ((with_reducible refine gate_callee (f := 32) rfl ?_); refine goesL_ (some 25) rfl rfl Try.func32 (by kernel_rfl) rfl #[.agg #[.slice A0_0 l0_0.length c0_0, .slice A0_1 l0_1.length c0_1]] rfl (by (try simp only [List.map_toArray, List.map_cons, List.map_nil]); first | done | rfl | (simp only [List.length_drop, List.length_take]; rfl)) ?_; (with_reducible refine (signatoryref34_Small.calls k _ _ l0_0 _ _ l0_1 false _ ?side1 ?side2 ?side3 ?side4 A7.out).mono ?_); (case side1 => repeat (first | exact (Kd.C_below HR0_0.out HB.out) | (with_reducible refine Kd.C_alloc ?_ _) | (with_reducible refine Kd.C_drewN ?_ _) | (with_reducible refine Kd.C_drew ?_))); (case side2 => exact HC0_0.out); (case side3 => repeat (first | exact (Kd.C_below HR0_1.out HB.out) | (with_reducible refine Kd.C_alloc ?_ _) | (with_reducible refine Kd.C_drewN ?_ _) | (with_reducible refine Kd.C_drew ?_))); (case side4 => exact HC0_1.out); rintro e w58 ⟨rfl, hb⟩; refine ⟨_, rfl, ?_⟩; have n0_ := Aside0.mk (blk_below (g := gb1190) (o := .cells #[.slice A0_0 l0_0.length c0_0, .slice A0_1 l0_1.length c0_1] 25 (0, 0)) (by (with_reducible repeat (first | refine blk_drewN ?_ _ | refine blk_drew ?_ | refine blk_alloc ?_ _)); exact BK1190.out) hb); have n1_ := Aside0.mk (below_step (by repeat (first | (with_reducible first | exact HB.out | apply below_alloc | apply pw_below_drewN | apply below_drew1 | refine below_set ?_ GE1190.out) | exact HB.out)) hb); clear BK1190; clear HB; have BK1190 := n0_; have HB := n1_; clear n0_ n1_; (try clear hb); (try clear hb2); (try clear hk); (try clear hi)))
   go_ret
   exact ⟨by first | rfl | (simp [errW_none, errW_some] <;> rfl) | (simp [*, errW_none, errW_some] <;> rfl), by repeat (first | (with_reducible first | exact HB.out | apply below_alloc | apply pw_below_drewN | apply below_drew1 | refine below_set ?_ GE1190.out) | exact HB.out)⟩
 ·replace c6 := Bool.eq_false_iff.mpr c6
  subst c6
  have H1 : (none) = some r := by rw [if_neg (show ¬ (false = true) by decide)] at H; exact H
  clear H
  have H := H1
  clear H1
  exact absurd H (by simp)
end Go.Proofs.Ytdbamhckgaoibaa.P
namespace Go.Proofs.Ytdbamhckgaoibaa.P
open Go.RowKit Go.Proofs.YtdbamhckgaoibaaW.PrintWords Go.Proofs.YtdbamhckgaoibaaW.PrintLast Go.Proofs.YtdbamhckgaoibaaW.PrintMore
theorem small_math (rows : List (List Int)) (owners : List Int) (k : Nat) (hk : 5000 ≤ k) : signatoryref34_Small.f k rows owners = some (decide (rows.length ≤ 16) && decide (checkP rows owners = 0) && decide (colsP rows ≤ 16)) := by
  unfold signatoryref34_Small.f
  by_cases h : rows.length ≤ 16
  · rw [if_pos (by omega), refCheck_math _ _ _ hk, Option.bind_some, decide_eq_true h]
    by_cases hc : checkP rows owners = 0
    · rw [if_pos hc, colsRef_math, Option.bind_some, decide_eq_true hc]
      by_cases h2 : colsP rows ≤ 16
      · rw [decide_eq_true h2, decide_eq_true (by omega)]; rfl
      · rw [decide_eq_false h2, decide_eq_false (by omega)]; rfl
    · rw [if_neg hc, decide_eq_false hc]; rfl
  · rw [if_neg (by omega), decide_eq_false h]; rfl
theorem randomQ_ok {m : Nat} {l : List Int} (h : ∀ x ∈ l, 0 ≤ x ∧ x < 4294967296) : (randomQ m l).any outQ = false := by
  refine outQ_inF fun x hx => ?_
  unfold randomQ at hx
  obtain ⟨i, _, rfl⟩ := List.mem_map.1 hx
  split
  · rename_i hi
    have hm : l.getD i 0 ∈ l := by rw [List.getD_eq_getElem?_getD, List.getElem?_eq_getElem hi]; exact List.getElem_mem hi
    have := fieldOf_inQ (h _ hm).1 (h _ hm).2
    unfold inQ at this
    rw [Bool.and_eq_true, decide_eq_true_eq, decide_eq_true_eq] at this
    exact this
  · exact ⟨by decide, by decide⟩
end Go.Proofs.Ytdbamhckgaoibaa.P
namespace Go.Proofs.Ytdbamhckgaoibaa.P
open Go.RowKit Go.Proofs.YtdbamhckgaoibaaW.PrintWords Go.Proofs.YtdbamhckgaoibaaW.PrintLast Go.Proofs.YtdbamhckgaoibaaW.PrintMore
theorem inQ_mod (x : Int) : inQ (x % 1073741789) = true := by
  unfold inQ
  rw [Bool.and_eq_true, decide_eq_true_eq, decide_eq_true_eq]
  omega
theorem shares_length (rows : List (List Int)) (s : List Int) : (sharesQ rows s).length = rows.length := by simp [sharesQ]
theorem shares_rd {rows : List (List Int)} {s : List Int} {j : Nat} (h : j < rows.length) : rd_T38 (sharesQ rows s) (j : Int) = ⟨(j : Int), Sig.dot (rows.getD j []) s % 1073741789⟩ := by
  rw [rdT_nat _ _ (by rw [shares_length]; exact h)]
  simp [sharesQ, shareQ]
theorem inQ_emod {x : Int} (h : inQ x = true) : x % 1073741789 = x := by
  unfold inQ at h
  rw [Bool.and_eq_true, decide_eq_true_eq, decide_eq_true_eq] at h
  omega
theorem commit_beq {o x : Int} (h : inQ o = true) : (commitQ o == commitQ x) = (x % 1073741789 == o) := by
  rw [Bool.eq_iff_iff, beq_iff_eq, beq_iff_eq]
  constructor
  · intro e
    have := commitQ_inj e
    rw [inQ_emod h] at this
    exact this.symm
  · intro e
    rw [← e, commitQ_mod]
theorem dfits_l0 {rows : List (List Int)} {owners : List Int} {s : List Int} (hc : checkP rows owners = 0) (hl : s.length = colsP rows) (other : Int) (ho : inQ (fieldOf other) = true) (hn : rows.length < 1000000) (k : Nat) (hk : 300 ≤ k) :
    ∀ d j, rows.length - j = d → j ≤ rows.length → signatorylaw34_DealingFits.l0 (k + d + 1) other (s.map commitQ) (sharesQ rows s) (rows.length : Int) (j : Int) rows owners = some true := by
  intro d
  induction d with
  | zero =>
    intro j hd hj
    rw [signatorylaw34_DealingFits.l0, if_neg (by omega)]
  | succ d ih =>
    intro j hd hj
    have hjl : j < rows.length := by omega
    have h1 := fits_dealt hc hl hjl (inQ_mod (Sig.dot (rows.getD j []) s)) (k + (d + 1)) (by omega)
    have h2 := fits_dealt hc hl hjl ho (k + (d + 1)) (by omega)
    rw [commitQ_mod, beq_self_eq_true] at h1
    rw [commit_beq ho] at h2
    rw [signatorylaw34_DealingFits.l0, if_pos (by omega), if_pos (by omega), if_pos (by rw [shares_length]; omega), shares_rd hjl]
    refine (congrArg (fun o => Option.bind o _) h1).trans ?_
    rw [Option.bind_some]
    refine (congrArg (fun o => Option.bind o _) h2).trans ?_
    rw [Option.bind_some, if_pos rfl, if_pos rfl, if_pos rfl]
    have e : ((Sig.dot (rows.getD j []) s % 1073741789 == fieldOf other) != (Sig.dot (rows.getD j []) s % 1073741789 == fieldOf other)) = false := bne_self_eq_false _
    refine (if_neg (fun e2 => by have e3 := e2.symm.trans e; cases e3)).trans ?_
    rw [wrap_succ (by omega)]
    exact ih (j + 1) (by omega) (by omega)
theorem cols_pos {rows : List (List Int)} {owners : List Int} (hc : checkP rows owners = 0) : 1 ≤ colsP rows := by
  have hP := check_ok hc
  unfold colsP
  split
  · decide
  · have := (hP.row 0 (by omega)).1
    omega
theorem word_inQ {x : Int} (h : (Lit.int .u32 x).wf = true) : 0 ≤ x ∧ x < 4294967296 := by
  simp only [Lit.wf, Bool.and_eq_true, decide_eq_true_eq] at h
  simp [IntKind.min, IntKind.max, IntKind.bits, IntKind.signed] at h
  omega
theorem dealingFits_true (rows : List (List Int)) (owners : List Int) (secret : Int) (l : List Int) (other : Int) (h1 : (Lit.int .u32 secret).wf = true) (h2 : ∀ x ∈ l, (Lit.int .u32 x).wf = true) (h3 : (Lit.int .u32 other).wf = true) :
    signatorylaw34_DealingFits.f 6000 rows owners secret l other = some true := by
  have hs := fieldOf_inQ (word_inQ h1).1 (word_inQ h1).2
  have ho := fieldOf_inQ (word_inQ h3).1 (word_inQ h3).2
  have hr := fun m => randomQ_ok (m := m) (fun x hx => word_inQ (h2 x hx))
  unfold signatorylaw34_DealingFits.f
  rw [show signatorylaw34_sane.f = some true from rfl, Option.bind_some, if_pos rfl, small_math _ _ _ (by omega), Option.bind_some]
  cases hsm : (decide (rows.length ≤ 16) && decide (checkP rows owners = 0) && decide (colsP rows ≤ 16)) with
  | false => rfl
  | true =>
    rw [Bool.and_eq_true, Bool.and_eq_true, decide_eq_true_eq, decide_eq_true_eq, decide_eq_true_eq] at hsm
    obtain ⟨⟨h16, hc⟩, hcl⟩ := hsm
    have hc1 := cols_pos hc
    have hlen : (randomQ (colsP rows - 1) l).length + 1 = colsP rows := by rw [randomQ_length]; omega
    have hsl : (fieldOf secret :: randomQ (colsP rows - 1) l).length = colsP rows := by rw [List.length_cons, hlen]
    have hd := deal_math hc hs (hr (colsP rows - 1)) hlen 6000 (by omega)
    rw [if_pos rfl, random_math hc1 (by omega) _ (by omega), Option.bind_some]
    refine (congrArg (fun o => Option.bind o _) hd).trans ?_
    rw [Option.bind_some]
    refine (congrArg (fun o => Option.bind o _) (pow_four (fieldOf secret))).trans ?_
    rw [Option.bind_some, if_pos rfl, if_pos rfl, if_pos (by rw [shares_length]), colsRef_math, Option.bind_some, if_pos (by rw [List.length_map, hsl]), if_pos (by rw [List.length_map, hsl]; omega)]
    refine (if_pos rfl).trans ?_
    rw [shares_length]
    have := dfits_l0 hc hsl other ho (by omega) (6000 - rows.length - 1) (by omega) rows.length 0 (by omega) (by omega)
    rw [show 6000 - rows.length - 1 + rows.length + 1 = 6000 by omega] at this
    exact this
end Go.Proofs.Ytdbamhckgaoibaa.P
