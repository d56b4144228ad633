/- A part of the proof of DealingFits: What linear's two great functions call: need, check, examine, caught; a table made by turned.; linear.Combine.; dealing.Recover.; dealing.Deal in plain words.; dealing.Public and Fits of what was dealt, in plain words.; dealing.Fits of what was dealt.; The calls of signatoryref09.Mod, signatoryref09.Add, signatoryref09.Mul, signatoryref09.power, signatoryref09.Inverse, signatoryref10.exponent, signatoryref10.power, signatoryref10.Valid, signatoryref10.Mul, signatoryref10.Pow, signatoryref23.Check, signatoryref23.Columns, signatoryref23.Few, signatoryref34.Columns, signatoryref34.Few, signatoryref34.Small, signatoryref34.SameInts, signatoryref34.Same, signatorylaw34.one, signatorylaw34.random come to what their functions in Lean say. -/
import Derived.Test.YtdbamhckgaoibaaZDF4
import Derived.Defers
import Derived.Recover
namespace Go.Proofs.Ytdbamhckgaoibaa.P
open Go.RowKit Go.Proofs.YtdbamhckgaoibaaW.PrintWords Go.Proofs.YtdbamhckgaoibaaW.PrintLast Go.Proofs.YtdbamhckgaoibaaW.PrintMore
set_option linter.unusedVariables false
set_option linter.unusedSimpArgs false
theorem need_c (n : Int) (w : World) : Calls Try.prog 182 #[.bool true, .int .i64 n] w fun e w' => e = .returned (.tuple #[]) ∧ w = w' := by
  go_enter Try.func182, Try.ntmps182
  go_wp2
  go_end0
  exact ⟨rfl, rfl⟩
theorem caught_idle (p : Addr) (w : World) : CallsD Try.prog 117 #[.pointer (some p)] .returning w fun e u' w' => e = .returned (.tuple #[]) ∧ u' = .returning ∧ w' = w := by
  refine callsD_of_wpS Try.func117 rfl fun c₀ cs hu => ?_
  apply wpS_seq
  apply wpS_region
  simp [wpOpsS, go_sem, recoverD, hu, Try.ntmps117, Exit.thenS]
  apply wpS_seq
  apply wpS_region
  simp [wpOpsS, go_sem, recoverD, hu, Try.ntmps117, Exit.thenS]
  refine wpS_cond (t := false) (by simp [Act.eval, Array.replicate]) ?_
  simp only [Bool.false_eq_true, if_false]
  refine wpS_of_wp (wp_skip ?_)
  cases c₀
  simp_all [bodyPostS, results, Try.results117]
theorem rd_row {l : List (List Int)} {j : Nat} (hlt : j < l.length) : rd_L1 l (j : Int) = l[j] := by
  unfold rd_L1
  rw [Int.toNat_natCast, List.getD_eq_getElem?_getD, List.getElem?_eq_getElem hlt]; rfl
theorem outQ_inF {l : List Int} (h : ∀ x ∈ l, Sig.InF x) : l.any outQ = false := by
  rw [List.any_eq_false]
  intro x hx
  have := h x hx
  unfold Sig.InF at this
  simp [outQ]
  omega
set_option maxHeartbeats 1000000 in
theorem check_c (A0 : Option Addr) (c0 : Nat) (l : List (List Int)) (n : Nat) (w : World) (hr : Kd.C (Kd.slice 3 (Kd.int .i64)) w A0 l.length l) (hR : Sig.Rect l n) (hn : n ≤ 64) :
    Calls Try.prog 183 #[.slice A0 l.length c0] w fun e w' => e = .returned (.tuple #[]) ∧ Drawn0 w w' := by
  have HR := Aside0.mk hr
  have HRT := Aside0.mk hR
  have hlen : l.length ≤ 9223372036854775807 := hr.2.1
  clear hr hR
  go_enter Try.func183, Try.ntmps183
  go_wp2
  go_loopg [9] l.length (fun gk v9 w' => ∃ j : Nat, j + gk = l.length ∧ v9 = .int .i64 (j : Int) ∧ Drawn0 w w')
  case atStart => exact ⟨0, by omega, rfl, by repeat (first | exact Drawn0.refl _ | apply Drawn0.step)⟩
  case round =>
    obtain ⟨j, hj, rfl, ⟨m, rfl⟩⟩ := hrel
    by_cases hlt : j < l.length
    · have c1 : decide ((j : Int) < (l.length : Int)) = true := decide_eq_true (by omega)
      have c2 : decide (j < l.length) = true := decide_eq_true hlt
      obtain ⟨ad, A1, c3, e, hx, hx2, hx3⟩ := at_L1 HR.out (j : Int) (by omega) (by omega)
      cases e
      rw [Int.toNat_natCast] at hx
      have hyl := (HRT.out _ (List.getElem_mem hlt)).1
      rw [rd_row hlt, hyl] at hx
      clear hx2 hx3
      have c4 : (0 : Int) ≤ (j : Int) := by omega
      have c5 : decide ((n : Int) ≤ 64) = true := decide_eq_true (by omega)
      clear hyl
      go_wp2_with (go_at_call 182; refine (need_c _ _).mono ?_; rintro e w' ⟨rfl, rfl⟩)
      go_roundg (gk - 1)
      case measure => omega
      case rel => exact ⟨j + 1, by omega, by go_num, by repeat (first | exact Drawn0.refl _ | apply Drawn0.step)⟩
    · have c1 : decide ((j : Int) < (l.length : Int)) = false := decide_eq_false (by omega)
      go_wp2
      go_loopg [20] l.length (fun gk v20 w' => ∃ j : Nat, j + gk = l.length ∧ v20 = .int .i64 (j : Int) ∧ Drawn0 w w')
      case atStart => exact ⟨0, by omega, rfl, by repeat (first | exact Drawn0.refl _ | apply Drawn0.step)⟩
      case round =>
        obtain ⟨i, hi, rfl, ⟨m2, rfl⟩⟩ := hrel
        clear c1 hlt hj
        by_cases hlt : i < l.length
        · have c1 : decide ((i : Int) < (l.length : Int)) = true := decide_eq_true (by omega)
          have c2 : decide (i < l.length) = true := decide_eq_true hlt
          obtain ⟨ad, A1, c3, e, hx, hx2, hx3⟩ := at_L1 HR.out (i : Int) (by omega) (by omega)
          have h0 : 0 < l.length := by omega
          obtain ⟨ad', A2, c3', e', hz, hz2, hz3⟩ := at_L1 HR.out ((0 : Nat) : Int) (by omega) (by omega)
          rw [e] at e'
          injection e' with e'
          subst e'
          cases e
          rw [Int.toNat_natCast] at hx hz
          have hyl := (HRT.out _ (List.getElem_mem hlt)).1
          have hy0 := (HRT.out _ (List.getElem_mem h0)).1
          rw [rd_row hlt] at hx hx2 hx3
          rw [rd_row h0, hy0] at hz
          rw [Addr.add_zero'] at hz
          have hq := outQ_inF (HRT.out _ (List.getElem_mem hlt)).2
          generalize l[i] = y at hx hx2 hx3 hyl hq
          have HX2 := Aside0.mk hx2
          have hx4 := hx3
          rw [hyl] at hx4
          have HX4 := Aside0.mk hx4
          clear hx4
          have HQ := Aside0.mk hq
          have hc := fun W (hC : Kd.C (Kd.int .i64) W A1 y.length y) => contains_oddL.calls A1 c3 y (y.any outQ) W hC hx2 rfl
          rw [hq, hyl] at hc
          rw [hyl] at hx
          have HC := Aside0.mk hc
          clear hx2 hx3 hz2 hz3 hq hc
          have c4 : (0 : Int) ≤ (i : Int) := by omega
          have c5 : (0 : Int) < (l.length : Int) := by omega
          have c6 : decide (0 < l.length) = true := decide_eq_true h0
          go_wp2_with (first | (go_at_call 161; refine (HC.out _ (Kd.C_below HX4.out (by repeat (first | exact Below.refl _ _ | apply pw_below_drewN | apply below_drew1)))).mono ?_; rintro e w' ⟨rfl, ⟨nd, rfl⟩⟩) | (go_at_call 182; refine (need_c _ _).mono ?_; rintro e w' ⟨rfl, rfl⟩))
          go_roundg (gk - 1)
          case measure => omega
          case rel => exact ⟨i + 1, by omega, by go_num, by repeat (first | exact Drawn0.refl _ | apply Drawn0.step)⟩
        · have c1 : decide ((i : Int) < (l.length : Int)) = false := decide_eq_false (by omega)
          go_wp2
          go_end0
          exact ⟨rfl, by repeat (first | exact Drawn0.refl _ | apply Drawn0.step)⟩
theorem C_rows_one {W : World} {A : Option Addr} {x : List Int} {c : Nat} (hx : Kd.C (Kd.int .i64) W A x.length x) (hc : x.length ≤ c) (b : Nat) (hb : W.cell? ⟨b, 0, none⟩ = some (.slice A x.length c)) :
    Kd.C (Kd.slice 3 (Kd.int .i64)) W (some ⟨b, 0, none⟩) 1 [x] := by
  refine ⟨rfl, by decide, fun _ => ⟨⟨b, 0, none⟩, rfl, fun j p hj => ?_⟩⟩
  have hj1 := (List.getElem?_eq_some_iff.1 hj).1
  obtain rfl : j = 0 := by simpa using hj1
  simp only [List.getElem?_cons_zero, Option.some.injEq] at hj
  subst hj
  refine ⟨[.slice A x.length c], rfl, ⟨A, c, rfl, hc, hx⟩, fun i u hu => ?_⟩
  have hi1 := (List.getElem?_eq_some_iff.1 hu).1
  obtain rfl : i = 0 := by simpa using hi1
  simp only [List.getElem?_cons_zero, Option.some.injEq] at hu
  subst hu
  exact hb
set_option maxHeartbeats 1000000 in
theorem examine_c (A0 : Option Addr) (c0 : Nat) (l : List (List Int)) (A1 : Option Addr) (c1 : Nat) (x : List Int) (w : World) (hr0 : Kd.C (Kd.slice 3 (Kd.int .i64)) w A0 l.length l) (hr1 : Kd.C (Kd.int .i64) w A1 x.length x) (hc1 : x.length ≤ c1)
    (hR : Sig.RectT l x) (hl : l.length ≤ 64) (hx : x.length ≤ 64) :
    Calls Try.prog 118 #[.slice A0 l.length c0, .slice A1 x.length c1] w fun e w' => e = .returned (.tuple #[]) ∧ Below w.heap.size w w' := by
  have c5 : decide ((l.length : Int) ≤ 64) = true := decide_eq_true (by omega)
  have HC1 := Aside0.mk (check_c A0 c0 l x.length w hr0 hR.1 hx)
  have HC2 := Aside0.mk (fun (W : World) (hb : Below w.heap.size w W) (b : Nat) (hcell : W.cell? ⟨b, 0, none⟩ = some (.slice A1 x.length c1)) => check_c (some ⟨b, 0, none⟩) 1 [x] x.length W (C_rows_one (Kd.C_below hr1 hb) hc1 b hcell) (fun row hrow => by
    rw [List.mem_singleton.1 hrow]; exact ⟨rfl, hR.2⟩) hx)
  have HR0 := Aside0.mk hr0
  have HRT := Aside0.mk hR
  by_cases h0 : 0 < l.length
  · obtain ⟨ad, A2, c2, e, hz, hz2, hz3⟩ := at_L1 hr0 ((0 : Nat) : Int) (by omega) (by omega)
    cases e
    have hyl := (hR.1 _ (List.getElem_mem h0)).1
    rw [rd_row h0, hyl, Int.toNat_natCast, Addr.add_zero'] at hz
    have hblt := World.block_lt_of_cell? w _ hz
    clear hr0 hr1 hR hz2 hz3 hyl hc1
    have c6 : ((l.length : Int) == 0) = false := beq_eq_false_iff_ne.2 (by omega)
    have c7 : (0 : Int) < (l.length : Int) := by omega
    have c8 : decide (0 < l.length) = true := decide_eq_true h0
    go_enter Try.func118, Try.ntmps118
    go_wp2_with (first | (go_at_call 182; refine (need_c _ _).mono ?_; rintro e w' ⟨rfl, rfl⟩) | (go_at_call 183; refine HC1.out.mono ?_; rintro e w' ⟨rfl, ⟨nd, rfl⟩⟩; clear HC1) | (go_at_call 183; refine (HC2.out _ (by exact (pw_below_drewN (Below.refl _ _) nd).alloc (Nat.le_refl _) _) _ (by exact (Bx.new (w.drewN nd) (.slice A1 x.length c1) 23).1)).mono ?_; rintro e w2 ⟨rfl, ⟨nd2, hw2⟩⟩; have hb2 : Below w.heap.size w w2 := (by rw [hw2]; exact pw_below_drewN ((pw_below_drewN (Below.refl _ _) nd).alloc (Nat.le_refl _) _) nd2); have HB2 := Aside0.mk hb2; replace hz := (hb2.cell hblt).trans hz; clear hw2 hb2 HC2))
    go_end0
    exact ⟨rfl, HB2.out⟩
  · have hl0 : l.length = 0 := by omega
    rw [hl0] at HC1 c5 ⊢
    clear hr0 hr1 hR HR0 HRT hc1
    go_enter Try.func118, Try.ntmps118
    go_wp2_with (first | (go_at_call 182; refine (need_c _ _).mono ?_; rintro e w' ⟨rfl, rfl⟩) | (go_at_call 183; refine HC1.out.mono ?_; rintro e w' ⟨rfl, ⟨nd, rfl⟩⟩; clear HC1) | (go_at_call 183; refine (HC2.out _ (by exact (pw_below_drewN (Below.refl _ _) nd).alloc (Nat.le_refl _) _) _ (by exact (Bx.new (w.drewN nd) (.slice A1 x.length c1) 23).1)).mono ?_; rintro e w2 ⟨rfl, ⟨nd2, hw2⟩⟩; have hb2 : Below w.heap.size w w2 := (by rw [hw2]; exact pw_below_drewN ((pw_below_drewN (Below.refl _ _) nd).alloc (Nat.le_refl _) _) nd2); have HB2 := Aside0.mk hb2; clear hw2 hb2 HC2))
    go_end0
    exact ⟨rfl, HB2.out⟩
theorem row_of {W : World} {base : Nat} {ok : Nat → Prop} {v : Value} {xs : List Int} (h : Kd.R (Kd.int .i64) 3 W base ok v xs) (hl : 0 < xs.length) :
    ∃ b c, v = .slice (some ⟨b, 0, none⟩) xs.length c ∧ xs.length ≤ c ∧ ok b ∧ base ≤ b ∧ b < W.heap.size ∧ RowAt W b xs := by
  obtain ⟨h0, inner, ho, hr⟩ := h
  rcases ho.2 with ⟨rfl, hn⟩ | ⟨g, cap, cur, rfl, hg, hh, hc1, hc2, hc3, hc4⟩
  · omega
  · refine ⟨g, cap, rfl, hc1, h0 g rfl, hg, (Array.getElem?_eq_some_iff.1 hh).1, fun j hj => ⟨?_, by simp [World.frozen?, hh]⟩⟩
    have hx : xs[j]? = some (xs.getD j 0) := by rw [List.getD_eq_getElem?_getD, List.getElem?_eq_getElem hj]; rfl
    have h1 : (inner.drop (j * 1)).take 1 = [.int .i64 (xs.getD j 0)] := hr.2 j _ hx
    rw [Nat.mul_one] at h1
    have hi : inner[j]? = some (.int .i64 (xs.getD j 0)) := by
      have h2 : ((inner.drop j).take 1)[0]? = some (.int .i64 (xs.getD j 0)) := by rw [h1]; rfl
      rw [List.getElem?_take_of_lt (by omega), List.getElem?_drop, Nat.add_zero] at h2
      exact h2
    have := ho.cells (g := g) rfl j _ hi
    rwa [add_plain] at this
theorem tab_of {W : World} {base : Nat} {ok : Nat → Prop} {v : Value} {t : List (List Int)} (h : Kd.S (Kd.slice 3 (Kd.int .i64)) 23 W base ok v t) (hl : 0 < t.length) (hrow : ∀ row ∈ t, 0 < row.length) :
    ∃ g cap bs, v = .slice (some ⟨g, 0, none⟩) t.length cap ∧ t.length ≤ cap ∧ bs.length = t.length ∧ Tab W base g bs t ∧ g < W.heap.size ∧ ∀ j, j < t.length → bs.getD j 0 < W.heap.size := by
  obtain ⟨f, h0, inner, ho, hr⟩ := h
  rw [List.length_zipIdx] at ho
  rcases ho.2 with ⟨rfl, hn⟩ | ⟨g, cap, cur, rfl, hg, hh, hc1, hc2, hc3, hc4⟩
  · omega
  · have H : ∀ i, i < t.length → ∃ b c, W.cell? ⟨g, i, none⟩ = some (.slice (some ⟨b, 0, none⟩) (t.getD i []).length c) ∧ (t.getD i []).length ≤ c ∧ b ≠ g ∧ f b = i ∧ base ≤ b ∧ b < W.heap.size ∧ RowAt W b (t.getD i []) := by
      intro i hi
      have hx : t[i]? = some (t.getD i []) := by rw [List.getD_eq_getElem?_getD, List.getElem?_eq_getElem hi]; rfl
      obtain ⟨vi, h1, h2⟩ := hr.2 i (t.getD i [], i) (Kd.zip_at hx)
      obtain ⟨b, c, rfl, q1, q2, q3, q4, q5⟩ := row_of h2 (hrow _ (Sig.getD_mem hi))
      refine ⟨b, c, ?_, q1, fun e => q2.1.2 (by rw [e]; rfl), q2.2, q3, q4, q5⟩
      have h1 : (inner.drop (i * 1)).take 1 = [.slice (some ⟨b, 0, none⟩) (t.getD i []).length c] := h1
      rw [Nat.mul_one] at h1
      have hii : inner[i]? = some (.slice (some ⟨b, 0, none⟩) (t.getD i []).length c) := by
        have h2 : ((inner.drop i).take 1)[0]? = some (.slice (some ⟨b, 0, none⟩) (t.getD i []).length c) := by rw [h1]; rfl
        rw [List.getElem?_take_of_lt (by omega), List.getElem?_drop, Nat.add_zero] at h2
        exact h2
      have := ho.cells (g := g) rfl i _ hii
      rwa [add_plain] at this
    have H' : ∀ i, ∃ b, i < t.length → ∃ c, W.cell? ⟨g, i, none⟩ = some (.slice (some ⟨b, 0, none⟩) (t.getD i []).length c) ∧ (t.getD i []).length ≤ c ∧ b ≠ g ∧ f b = i ∧ base ≤ b ∧ b < W.heap.size ∧ RowAt W b (t.getD i []) := by
      intro i
      by_cases hi : i < t.length
      · obtain ⟨b, hb⟩ := H i hi; exact ⟨b, fun _ => hb⟩
      · exact ⟨0, fun h => absurd h hi⟩
    refine ⟨g, cap, (List.range t.length).map (fun i => (H' i).choose), rfl, hc1, by simp, ?_⟩
    have hb : ∀ i, i < t.length → ((List.range t.length).map (fun i => (H' i).choose)).getD i 0 = (H' i).choose := fun i hi => Sig.getD_map_range _ _ _ _ hi
    refine ⟨⟨hg, fun i hi => ?_, fun i hi => ?_, fun i j hi hj e => ?_, fun i hi => ⟨?_, by simp [World.frozen?, hh]⟩, fun i hi => ?_⟩, (Array.getElem?_eq_some_iff.1 hh).1, fun i hi => ?_⟩
    · rw [hb i hi]; obtain ⟨c, q1, q2, q3, q4, q5, q6, q7⟩ := (H' i).choose_spec hi; exact q5
    · rw [hb i hi]; obtain ⟨c, q1, q2, q3, q4, q5, q6, q7⟩ := (H' i).choose_spec hi; exact q3
    · rw [hb i hi, hb j hj] at e
      obtain ⟨c, q1, q2, q3, q4, q5, q6, q7⟩ := (H' i).choose_spec hi
      obtain ⟨c', r1, r2, r3, r4, r5, r6, r7⟩ := (H' j).choose_spec hj
      rw [e] at q4
      exact q4.symm.trans r4
    · rw [hb i hi]; obtain ⟨c, q1, q2, q3, q4, q5, q6, q7⟩ := (H' i).choose_spec hi; exact ⟨c, q2, q1⟩
    · rw [hb i hi]; obtain ⟨c, q1, q2, q3, q4, q5, q6, q7⟩ := (H' i).choose_spec hi; exact q7
    · rw [hb i hi]; obtain ⟨c, q1, q2, q3, q4, q5, q6, q7⟩ := (H' i).choose_spec hi; exact q6
end Go.Proofs.Ytdbamhckgaoibaa.P
namespace Go.Proofs.Ytdbamhckgaoibaa.P
open Go.RowKit Go.Proofs.YtdbamhckgaoibaaW.PrintWords Go.Proofs.YtdbamhckgaoibaaW.PrintLast Go.Proofs.YtdbamhckgaoibaaW.PrintMore
set_option linter.unusedVariables false
set_option linter.unusedSimpArgs false
def CombPost (rows : List (List Int)) (target : List Int) (w : World) (e : Ending) (w' : World) : Prop :=
  ∃ v, e = .returned (.tuple #[v, .bool (Sig.combine rows target).isSome, .int .i64 0]) ∧ Kd.R (Kd.int .i64) 3 w' w.heap.size (fun _ => True) v ((Sig.combine rows target).getD []) ∧ Below w.heap.size w w'
theorem R_of_own {w : World} {base n : Nat} {ok : Nat → Prop} {v : Value} {xs : List Int} (h : w.ownsRow base 3 1 v n (nums .i64 xs)) (hn : xs.length = n) (hok : ∀ k, v.ownBlock = some k → ok k) : Kd.R (Kd.int .i64) 3 w base ok v xs := by
  subst hn
  exact R_of_owns h hok
set_option maxRecDepth 100000 in
set_option maxHeartbeats 4000000 in
theorem combine_c (A0 : Option Addr) (c0 : Nat) (rows : List (List Int)) (A1 : Option Addr) (c1 : Nat) (target : List Int) (w : World) (hr0 : Kd.C (Kd.slice 3 (Kd.int .i64)) w A0 rows.length rows) (hc0 : rows.length ≤ c0) (hr1 : Kd.C (Kd.int .i64) w A1 target.length target) (hc1 : target.length ≤ c1)
    (hR : Sig.RectT rows target) (hl : rows.length ≤ 64) (h1 : 0 < target.length) (hx : target.length ≤ 64) :
    Calls Try.prog 92 #[.slice A0 rows.length c0, .slice A1 target.length c1] w (CombPost rows target w) := by
  have HE := Aside0.mk (fun (W : World) (hb : Below w.heap.size w W) => examine_c A0 c0 rows A1 c1 target W (Kd.C_below hr0 hb) (Kd.C_below hr1 hb) hc1 hR hl hx)
  have HT := Aside0.mk (fun (W : World) (hb : Below w.heap.size w W) => linear_turned.calls (target.length * (rows.length + 2) + 1) A0 c0 rows A1 c1 target (Sig.turned rows target) W (Kd.C_below hr0 hb) hc0 (Kd.C_below hr1 hb) hc1 (turned_math (by omega) (by omega) (fun row h => (hR.1 row h).1)))
  have htr := Sig.turned_rect hR
  have htl := Sig.turned_length rows target
  have hcm : Sig.combine rows target = if Sig.fits (Sig.reduce (Sig.turned rows target) rows.length).1 (Sig.reduce (Sig.turned rows target) rows.length).2.length rows.length then some (Sig.combY (Sig.reduce (Sig.turned rows target) rows.length).1 (Sig.reduce (Sig.turned rows target) rows.length).2 rows.length) else none := rfl
  obtain ⟨hinv, hrl⟩ := Sig.inv_reduce htr rows.length (by omega)
  have hrd := fun (W : World) (B g cap : Nat) (bs : List Nat) (q1 : Tab W B g bs (Sig.turned rows target)) (q2 : bs.length = (Sig.turned rows target).length) (q3 : (Sig.turned rows target).length ≤ cap) (q4 : B ≤ W.heap.size) (q5 : g < W.heap.size) (q6 : ∀ j, j < (Sig.turned rows target).length → bs.getD j 0 < W.heap.size) => reduce_c W B g cap bs (Sig.turned rows target) rows.length (rows.length + 1) q1 q2 htr (by omega) (by omega) (by omega) q3 q4 q5 q6
  unfold RedPost at hrd
  unfold CombPost
  rw [hcm]
  have hrow : ∀ row ∈ Sig.turned rows target, 0 < row.length := fun row h => by have := (htr row h).1; omega
  generalize Sig.turned rows target = t0 at *
  generalize hred : Sig.reduce t0 rows.length = st at *
  obtain ⟨m, ps⟩ := st
  simp only at hinv hrl hrd ⊢
  have HRD := Aside0.mk hrd
  have HINV := Aside0.mk hinv
  have HROW := Aside0.mk hrow
  have HTL := Aside0.mk htl
  have HRL := Aside0.mk hrl
  clear hr0 hr1 hR hcm hrd hinv hrow hred htr htl hrl
  obtain ⟨R, hRR⟩ : ∃ R : Ending → World → Prop, R = fun e w' => ∃ v, e = .returned (.tuple #[v, .bool (if Sig.fits m ps.length rows.length = true then some (Sig.combY m ps rows.length) else none).isSome, .int .i64 0]) ∧ Kd.R (Kd.int .i64) 3 w' w.heap.size (fun _ => True) v ((if Sig.fits m ps.length rows.length = true then some (Sig.combY m ps rows.length) else none).getD []) ∧ Below w.heap.size w w' := ⟨_, rfl⟩
  rw [← hRR]
  have HRR := Aside0.mk hRR
  clear hRR
  go_enter_defers Try.func92, Try.ntmps92
  go_wp2_with (first | (go_at_call 118; refine (HE.out _ (by exact (Below.refl _ _).alloc (Nat.le_refl _) _)).mono ?_; rintro e w1 ⟨rfl, hb1⟩; have HB1 := Aside0.mk (below_then ((Below.refl _ w).alloc (Nat.le_refl _) _) (by simp) hb1); have HX1 := Aside0.mk ((Bx.new w (.int .i64 0) 29).below hb1); clear hb1) | (go_at_call 169; refine (HT.out _ HB1.out).mono ?_; rintro e w2 ⟨v2, rfl, hS2, hb2⟩; have HS2 := Aside0.mk hS2; have HB2 := Aside0.mk hb2; clear hS2 hb2))
  obtain ⟨g, cap, bs, rfl, hcap, hlb, hT, hg, hbl⟩ := tab_of HS2.out (by rw [HTL.out]; exact h1) HROW.out
  have hge := hT.geg
  have hges := hT.ge
  refine (HRD.out w2 w1.heap.size g cap bs hT hlb hcap HB2.out.size hg hbl).mono ?_
  rintro e w3 ⟨v3, bs', rfl, hlb', hT3, hO3, hC3⟩
  have hB3 : Below w1.heap.size w2 w3 := hC3.below HB2.out.size (fun k hk => by
    rcases hk with rfl | ⟨j, hj, rfl⟩
    · exact hge
    · exact hges j hj)
  have hB13 : Below w1.heap.size w1 w3 := HB2.out.trans hB3
  have hX3 : Bx w3 w.heap.size (.int .i64 0) := HX1.out.below hB13
  have hB : Below w.heap.size w w3 := HB1.out.trans (hB13.mono HB1.out.size)
  have hb1 := HX1.out.lt
  have hs23 := hC3.size
  obtain ⟨pA, pc, rfl⟩ := own_len hO3
  have HT3 := Aside0.mk hT3
  have HO3 := Aside0.mk hO3
  have HX3 := Aside0.mk hX3
  have HB := Aside0.mk hB
  have hs12 := HB2.out.size
  clear hT3 hO3 hX3 hB hT hlb hges hge hbl hC3 hB3 hB13 HE HT HRD HS2 HB1 HB2 HX1
  have hpf : ps.length ≤ t0.length := by rw [← HRL.out]; exact HINV.out.few
  have y1 : (0 : Int) ≤ (ps.length : Int) := by omega
  have y2 : (ps.length : Int) ≤ (t0.length : Int) := by omega
  have y3 : decide (ps.length ≤ t0.length) = true := decide_eq_true hpf
  obtain ⟨L, hL⟩ : ∃ L, L = t0.length - ps.length := ⟨_, rfl⟩
  obtain ⟨A28, C28, hsl, hA⟩ : ∃ A C, (∀ W : World, (Instr.sliceAt 134 (.slice (some ⟨g, 0, none⟩) t0.length cap) (some (.int .i64 (ps.length : Int))) none none).run Try.prog W = .ok (.slice A L C) W) ∧ (0 < L → A = some ⟨g, ps.length, none⟩) := by
    by_cases e : cap = ps.length
    · refine ⟨some ⟨g, 0, none⟩, cap - ps.length, fun W => ?_, fun h => by omega⟩
      simp [go_sem, y1, y2, e, hL]
    · refine ⟨some ⟨g, ps.length, none⟩, cap - ps.length, fun W => ?_, fun h => rfl⟩
      simp [go_sem, y1, y2, e, hL]
  have HA := Aside0.mk hA
  have HLL := Aside0.mk hL
  clear hA hL
  go_wp2
  clear hsl
  go_loopg [30] L (fun gk v30 w' => ∃ j : Nat, j ≤ L ∧ gk = L - j ∧ v30 = .int .i64 (j : Int) ∧ Aside0 (∀ i, ps.length ≤ i → i < ps.length + j → Sig.ent m i rows.length = 0) ∧ w' = w3)
  case atStart => exact ⟨0, Nat.zero_le _, rfl, rfl, ⟨fun i h1 h2 => by omega⟩, rfl⟩
  case round =>
    obtain ⟨j, hj, rfl, rfl, HZ, hwe⟩ := hrel
    subst hwe
    by_cases hjL : j < L
    · have hi : ps.length + j < m.length := by have := HRL.out; have := HLL.out; omega
      have hlen := (HINV.out.rect _ (Sig.getD_mem hi)).1
      obtain ⟨⟨ci, m1, m2⟩, m3⟩ := HT3.out.main _ hi
      obtain ⟨q1, q2⟩ := HT3.out.rows _ hi rows.length (by omega)
      have q0 : (m.getD (ps.length + j) []).getD rows.length 0 = Sig.ent m (ps.length + j) rows.length := rfl
      rw [q0] at q1
      rw [hlen] at m2
      obtain ⟨bi, hbi⟩ : ∃ bi, bi = bs'.getD (ps.length + j) 0 := ⟨_, rfl⟩
      rw [← hbi] at m2 q1
      obtain ⟨x, hx⟩ : ∃ x, x = Sig.ent m (ps.length + j) rows.length := ⟨_, rfl⟩
      rw [← hx] at q1
      have HX := Aside0.mk hx
      have hAA := HA.out (by omega)
      subst hAA
      have f1 : decide ((j : Int) < (L : Int)) = true := decide_eq_true (by omega)
      have f2 : (0 : Int) ≤ (j : Int) := by omega
      have f3 : (j : Int) < (L : Int) := by omega
      have f4 : decide (j < L) = true := decide_eq_true hjL
      have f5 : (0 : Int) ≤ (rows.length : Int) := by omega
      have f6 : (rows.length : Int) < ((rows.length + 1 : Nat) : Int) := by omega
      have f7 : decide (rows.length < rows.length + 1) = true := decide_eq_true (by omega)
      have hxc := HX3.out.1
      have hxf := HX3.out.2
      clear hx hbi q0 m3 q2 hlen m1
      by_cases hz : x = 0
      · have hzb : (x == 0) = true := beq_iff_eq.2 hz
        have HZ0 := Aside0.mk hz
        clear hz hxc hxf
        go_wp2
        go_roundg (L - (j + 1))
        case measure => omega
        case rel =>
          have hj64 : j < 64 := by have := HTL.out; have := HLL.out; omega
          refine ⟨j + 1, by omega, rfl, by rw [wrap_succ (by omega)], ⟨fun i h1 h2 => ?_⟩, rfl⟩
          by_cases h3 : i = ps.length + j
          · rw [h3, ← HX.out]; exact HZ0.out
          · exact HZ.out i h1 (by omega)
      · have hzb : (x == 0) = false := beq_eq_false_iff_ne.2 hz
        have HZ0 := Aside0.mk hz
        clear hz
        go_wp2
        refine leaves_cons (f := 117) (args := #[.pointer (some ⟨w.heap.size, 0, none⟩)]) (by simp) (by simp [go_sem]) ?_
        refine (caught_idle ⟨w.heap.size, 0, none⟩ _).mono ?_
        rintro e u' w'' ⟨rfl, rfl, rfl⟩
        have hcell : (wr.setCell ⟨w.heap.size, 0, none⟩ (.int .i64 0)).cell? ⟨w.heap.size, 0, none⟩ = some (.int .i64 0) := (HX3.out.set _).1
        have hres : ∀ W : World, W.cell? ⟨w.heap.size, 0, none⟩ = some (.int .i64 0) → Below w.heap.size w W → Sig.fits m ps.length rows.length = false → R (.returned (.tuple #[.slice none 0 0, .bool false, .int .i64 0])) W := fun W _ hW hf => by
          rw [HRR.out]
          refine ⟨.slice none 0 0, ?_, ?_, hW⟩
          · rw [hf]; rfl
          · rw [hf]; exact Kd.R_nil _ _ _ _ _
        have hf : Sig.fits m ps.length rows.length = false := by
          rw [Bool.eq_false_iff]
          intro h
          exact HZ0.out (HX.out.trans (Sig.fits_spec.1 h _ (Nat.le_add_right _ _) hi))
        have hfin := hres _ hcell (HB.out.setCell (Nat.le_refl _) _) hf
        clear hres hf HX3 HT3 HO3 HB
        simp [Leaves, settle, results, Try.results92, go_sem, hcell]
        exact hfin
    · obtain rfl : j = L := by omega
      have f1 : decide ((j : Int) < (j : Int)) = false := decide_eq_false (by omega)
      have hmk := print_make (P := Try.prog) 23 3 .i64 8 (by kernel_rfl) (by kernel_rfl) (by decide) rows.length (by omega)
      go_wp2
      clear hmk
      have hown := own_made wr wr.heap.size 3 .i64 rows.length (Nat.le_refl _) (by omega)
      obtain ⟨W4, hW4⟩ : ∃ W4, wr.alloc (.cells (madeCells #[.int .i64 0] rows.length) 3) = W4 := ⟨_, rfl⟩
      rw [hW4] at hown ⊢
      have hB4 : Below wr.heap.size wr W4 := by rw [← hW4]; exact (Below.refl _ _).alloc (Nat.le_refl _) _
      have HT4 := Aside0.mk (HT3.out.below hB4)
      have HO4 := Aside0.mk (own_below HO3.out hB4)
      have HX4 := Aside0.mk (HX3.out.below hB4)
      have HB4 := Aside0.mk (below_then HB.out HB.out.size hB4)
      have HY4 := Aside0.mk hown
      have hsW := hB4.size
      have hxl := HX3.out.lt
      have hgb : ∀ i, i < m.length → bs'.getD i 0 < wr.heap.size := fun i hi => by
        have h2 := (HINV.out.rect _ (Sig.getD_mem hi)).1
        exact World.block_lt_of_cell? wr _ (HT3.out.rows i hi 0 (by omega)).1
      have hgw : g < wr.heap.size := by omega
      have HGB := Aside0.mk hgb
      have hpo : ∀ b, (Value.slice pA ps.length pc).ownBlock = some b → b < wr.heap.size := fun b hb => own_lt HO3.out b hb
      have HPO := Aside0.mk hpo
      clear hpo
      have hcomb : Sig.fits m ps.length rows.length = true := Sig.fits_spec.2 (fun i h1 h2 => HZ.out i h1 (by have := HLL.out; have := HRL.out; omega))
      have HF := Aside0.mk hcomb
      clear hown hB4 hW4 HT3 HO3 HX3 HB HZ hgb hcomb hsW
      have hpn : ∀ k, k < ps.length → ps.getD k 0 < rows.length := fun k hk => Sig.getD_low HINV.out.low hk
      have HPN := Aside0.mk hpn
      clear hpn
      have hp64 : ps.length ≤ 64 := by have := HTL.out; omega
      obtain ⟨gy, hgy⟩ : ∃ gy, gy = wr.heap.size := ⟨_, rfl⟩
      rw [← hgy] at HY4 HGB HPO hgw hxl hs23 ⊢
      have hw2 : w.heap.size ≤ w2.heap.size := by omega
      clear hgy
      go_loopg [44] ps.length (fun gk v44 w' => ∃ k : Nat, k ≤ ps.length ∧ gk = ps.length - k ∧ v44 = .int .i64 (k : Int) ∧ w'.ownsRow gy 3 1 (.slice (some ⟨gy, 0, none⟩) rows.length rows.length) rows.length (nums .i64 (Sig.lay ps (fun k => Sig.ent m k rows.length) (List.replicate rows.length 0) k)) ∧ Chg (fun b => b = gy) W4 w')
      case atStart => exact ⟨0, Nat.zero_le _, rfl, rfl, HY4.out, Chg.refl _ _⟩
      case round =>
        obtain ⟨k, hk, rfl, rfl, hY, hC⟩ := hrel
        have hX := HX4.out.chg hC (by omega)
        have HC := Aside0.mk hC
        by_cases hkp : k < ps.length
        · have hT := HT4.out.chg hC (by omega) (fun i hi e => by have := HGB.out i hi; omega)
          have hO := own_move HO4.out (fun b hb => hC.block b (own_lt HO4.out b hb) (fun e => by have := HPO.out b hb; omega))
          obtain ⟨gp, hgp⟩ : ∃ gp, pA = some ⟨gp, 0, none⟩ := by
            rcases hO.2 with ⟨_, h0⟩ | ⟨gp, cp, cur, h0, _⟩
            · omega
            · injection h0 with h0; exact ⟨gp, h0⟩
          subst hgp
          obtain ⟨p1, _⟩ := own_at hO (k : Int) (by omega) (by omega)
          have e1 : rd (ps.map fun (p : Nat) => (p : Int)) (k : Int) = ((ps.getD k 0 : Nat) : Int) := by
            rw [rd_nat, List.getD_eq_getElem?_getD, List.getElem?_map, List.getD_eq_getElem?_getD, List.getElem?_eq_getElem hkp]; rfl
          rw [e1, Int.toNat_natCast] at p1
          have hpk := HPN.out k hkp
          have hkm : k < m.length := by have := HRL.out; omega
          have hlen := (HINV.out.rect _ (Sig.getD_mem hkm)).1
          obtain ⟨⟨ci, m1, m2⟩, m3⟩ := hT.main k hkm
          obtain ⟨q1, q2⟩ := hT.rows k hkm rows.length (by omega)
          have q0 : (m.getD k []).getD rows.length 0 = Sig.ent m k rows.length := rfl
          rw [q0] at q1
          rw [hlen] at m2
          have hstep : Sig.lay ps (fun k => Sig.ent m k rows.length) (List.replicate rows.length 0) (k + 1) = (Sig.lay ps (fun k => Sig.ent m k rows.length) (List.replicate rows.length 0) k).set (ps.getD k 0) (Sig.ent m k rows.length) := rfl
          obtain ⟨s1, s2⟩ := own_at hY ((ps.getD k 0 : Nat) : Int) (by omega) (by omega)
          obtain ⟨s3, _⟩ := own_store hY ((ps.getD k 0 : Nat) : Int) (Sig.ent m k rows.length)
          rw [Int.toNat_natCast] at s1 s2 s3
          rw [← hstep] at s3
          have hst2 := hC.then_set (.inl rfl) (j := ps.getD k 0) (.int .i64 (Sig.ent m k rows.length)) (b := gy)
          have HS3 := Aside0.mk s3
          have HS4 := Aside0.mk hst2
          have HHX := Aside0.mk hX
          have f2 : decide ((k : Int) < (ps.length : Int)) = true := decide_eq_true (by omega)
          have f3 : (0 : Int) ≤ (k : Int) := by omega
          have f4 : (k : Int) < (ps.length : Int) := by omega
          have f5 : decide (k < ps.length) = true := decide_eq_true hkp
          have f6 : (k : Int) < (t0.length : Int) := by have := HRL.out; omega
          have f7 : decide (k < t0.length) = true := decide_eq_true (by have := HRL.out; omega)
          have f8 : (0 : Int) ≤ (rows.length : Int) := by omega
          have f9 : (rows.length : Int) < ((rows.length + 1 : Nat) : Int) := by omega
          have f10 : decide (rows.length < rows.length + 1) = true := decide_eq_true (by omega)
          have f11 : (0 : Int) ≤ ((ps.getD k 0 : Nat) : Int) := by omega
          have f12 : ((ps.getD k 0 : Nat) : Int) < (rows.length : Int) := by omega
          have f13 : decide (ps.getD k 0 < rows.length) = true := decide_eq_true hpk
          clear hT hO hY hC hX e1 hpk hlen m1 m3 q2 q0 hstep s3 hst2 HHX
          obtain ⟨pk, hpk⟩ : ∃ pk, pk = ps.getD k 0 := ⟨_, rfl⟩
          obtain ⟨bi, hbi⟩ : ∃ bi, bi = bs'.getD k 0 := ⟨_, rfl⟩
          obtain ⟨x, hx⟩ : ∃ x, x = Sig.ent m k rows.length := ⟨_, rfl⟩
          rw [← hpk] at p1 s1 s2 HS3 HS4 f11 f12 f13
          rw [← hbi] at m2 q1
          rw [← hx] at q1 HS3 HS4
          clear hpk hbi hx
          go_wp2
          go_roundg (ps.length - (k + 1))
          case measure => omega
          case rel => exact ⟨k + 1, by omega, rfl, by first | rfl | rw [wrap_succ (by omega)], HS3.out, HS4.out⟩
        · obtain rfl : k = ps.length := by omega
          have f2 : decide ((ps.length : Int) < (ps.length : Int)) = false := decide_eq_false (by omega)
          have hxc := hX.1
          have hxf := hX.2
          have hcell : (wr.setCell ⟨w.heap.size, 0, none⟩ (.int .i64 0)).cell? ⟨w.heap.size, 0, none⟩ = some (.int .i64 0) := (hX.set _).1
          have hfin : R (.returned (.tuple #[.slice (some ⟨gy, 0, none⟩) rows.length rows.length, .bool true, .int .i64 0])) (wr.setCell ⟨w.heap.size, 0, none⟩ (.int .i64 0)) := by
            rw [HRR.out]
            refine ⟨.slice (some ⟨gy, 0, none⟩) rows.length rows.length, ?_, ?_, ?_⟩
            · rw [HF.out]; rfl
            · rw [HF.out]
              exact R_of_own (own_mono (own_far hY (b := w.heap.size) (j := 0) (by omega) (.int .i64 0)) (by omega)) (Sig.combY_length _ _ _) (fun _ _ => trivial)
            · exact (HB4.out.trans ((hC.below (base := w.heap.size) HB4.out.size (fun k e => by omega)))).setCell (Nat.le_refl _) _
          have HFIN := Aside0.mk hfin
          clear hfin hX HX4 hC HC HF HRR hY HY4 HT4 HO4 HB4
          go_wp2
          refine leaves_cons (f := 117) (args := #[.pointer (some ⟨w.heap.size, 0, none⟩)]) (by simp) (by simp [go_sem]) ?_
          refine (caught_idle ⟨w.heap.size, 0, none⟩ _).mono ?_
          rintro e u' w'' ⟨rfl, rfl, rfl⟩
          simp [Leaves, settle, results, Try.results92, go_sem, hcell]
          exact HFIN.out
end Go.Proofs.Ytdbamhckgaoibaa.P
namespace Go.Proofs.Ytdbamhckgaoibaa.P
open Go.RowKit Go.Proofs.YtdbamhckgaoibaaW.PrintWords Go.Proofs.YtdbamhckgaoibaaW.PrintLast Go.Proofs.YtdbamhckgaoibaaW.PrintMore
set_option linter.unusedVariables false
set_option linter.unusedSimpArgs false
theorem rows_c (A0 A1 As : Option Addr) (n0 c0 n1 c1 ns cs : Nat) (w : World) : Calls Try.prog 94 #[.agg #[.slice A0 n0 c0, .slice A1 n1 c1], .slice As ns cs] w fun e w' =>
    e = .returned (.func (.func 171) #[] #[.pointer (some ⟨w.heap.size + 1, 0, none⟩), .pointer (some ⟨w.heap.size, 0, none⟩)]) ∧ w' = (w.alloc (.cells #[.slice A0 n0 c0, .slice A1 n1 c1] 25)).alloc (.cells #[.slice As ns cs] 26) := by
  have hmf : ∀ (fn : Fn) (first cap : Array Value) (w : World), (Instr.makeFunc fn first cap).run Try.prog w = .ok (.func fn first cap) w := fun _ _ _ _ => rfl
  go_enter Try.func94, Try.ntmps94
  go_wp2
  go_ret
  exact ⟨by first | rfl | (simp; done) | (simp; rfl), rfl⟩
def inQ (x : Int) : Bool := decide (0 ≤ x) && decide (x < 1073741789)
def rightS (n : Nat) (s : S38) : Bool := decide (0 ≤ s.f0) && decide (s.f0 < n) && inQ s.f1
def sharesOk (n : Nat) : Int → List S38 → Bool
  | _, [] => true
  | last, s :: l => rightS n s && decide (last < s.f0) && sharesOk n s.f0 l
def colsP (rows : List (List Int)) : Nat := if rows.length = 0 then 1 else (rows.getD 0 []).length
def targetP (rows : List (List Int)) : List Int := (List.replicate (colsP rows) 0).set 0 1
def rowsOf (rows : List (List Int)) (ls : List S38) : List (List Int) := ls.map fun s => rows.getD s.f0.toNat []
def recT (rows : List (List Int)) (ls : List S38) : Int × Bool × Int :=
  match Sig.combine (rowsOf rows ls) (targetP rows) with
  | some y => (sumQ (fun i => y.getD i 0 * (rd_T38 ls (i : Int)).f1 % 1073741789) ls.length, true, 0)
  | none => (0, false, 0)
def recQ (rows : List (List Int)) (owners : List Int) (ls : List S38) : Int × Bool × Int :=
  if checkP rows owners = 0 then
    if sharesOk rows.length (-1) ls then recT rows ls else (0, false, 340)
  else (0, false, checkP rows owners)
theorem right_math (rows : List (List Int)) (owners : List Int) (s : S38) : dealing_right.f rows owners s.f0 s.f1 = some (rightS rows.length s) := by
  unfold dealing_right.f rightS
  by_cases h1 : s.f0 ≥ 0
  · rw [if_pos h1]
    by_cases h2 : s.f0 < (rows.length : Int)
    · rw [if_pos h2]
      unfold dealing_numbers.f contains_outQ.f inQ
      simp only [Option.bind_some, List.any_cons, List.any_nil, Bool.or_false, outQ]
      have e1 : decide (0 ≤ s.f0) = true := decide_eq_true h1
      have e2 : decide (s.f0 < (rows.length : Int)) = true := decide_eq_true h2
      rw [e1, e2]
      by_cases h3 : s.f1 < 0
      · have : ¬ 0 ≤ s.f1 := by omega
        simp [h3, this]
      · have h4 : 0 ≤ s.f1 := by omega
        by_cases h5 : s.f1 < 1073741789
        · have : ¬ 1073741789 ≤ s.f1 := by omega
          simp [h3, h4, h5, this]
        · have : 1073741789 ≤ s.f1 := by omega
          simp [h3, h4, h5, this]
    · rw [if_neg h2]; simp [h2]
  · rw [if_neg h1]; simp [show ¬ 0 ≤ s.f0 by omega]
theorem cols_math {rows : List (List Int)} {owners : List Int} : dealing_columns.f rows owners = some (colsP rows : Int) := by
  unfold dealing_columns.f colsP
  by_cases h : rows.length = 0
  · rw [if_pos (by omega), if_pos h]; rfl
  · rw [if_neg (by omega), if_neg h, if_pos (by omega), rdL0]
theorem sharesOk_count {n : Nat} : ∀ (ls : List S38) (last : Int), sharesOk n last ls = true → -1 ≤ last → (ls.length : Int) ≤ n - 1 - last ∨ ls = []
  | [], _, _, _ => .inr rfl
  | s :: l, last, h, h1 => by
    simp only [sharesOk, Bool.and_eq_true, decide_eq_true_eq, rightS] at h
    obtain ⟨⟨⟨⟨h2, h3⟩, _⟩, h4⟩, h5⟩ := h
    left
    rcases sharesOk_count l s.f0 h5 (by omega) with h6 | h6
    · rw [List.length_cons]; omega
    · subst h6; simp; omega
theorem sharesOk_all {n : Nat} : ∀ (ls : List S38) (last : Int), sharesOk n last ls = true → ∀ s ∈ ls, rightS n s = true
  | [], _, _, _, h => by cases h
  | s :: l, last, h, x, hx => by
    simp only [sharesOk, Bool.and_eq_true] at h
    rcases List.mem_cons.1 hx with rfl | hx
    · exact h.1.1
    · exact sharesOk_all l s.f0 h.2 x hx
theorem targetP_length (rows : List (List Int)) : (targetP rows).length = colsP rows := by simp [targetP]
theorem targetP_inF (rows : List (List Int)) : ∀ x ∈ targetP rows, Sig.InF x := fun x hx => by
  rcases List.mem_or_eq_of_mem_set hx with h | rfl
  · rw [List.eq_of_mem_replicate h]; exact ⟨by decide, by decide⟩
  · exact ⟨by decide, by decide⟩
theorem combOk_rec {rows : List (List Int)} {owners : List Int} {ls : List S38} (hc : checkP rows owners = 0) (hs : sharesOk rows.length (-1) ls = true) : Sig.RectT (rowsOf rows ls) (targetP rows) ∧ (rowsOf rows ls).length ≤ 64 ∧ 0 < (targetP rows).length ∧ (targetP rows).length ≤ 64 := by
  have hP := check_ok hc
  have hcol : ∀ s ∈ ls, rows.length ≠ 0 := fun s hx => by
    have := sharesOk_all ls _ hs s hx
    simp only [rightS, Bool.and_eq_true, decide_eq_true_eq] at this
    omega
  refine ⟨⟨fun row hr => ?_, targetP_inF rows⟩, ?_, ?_, ?_⟩
  · obtain ⟨s, hx, rfl⟩ := List.mem_map.1 hr
    have h1 := sharesOk_all ls _ hs s hx
    simp only [rightS, Bool.and_eq_true, decide_eq_true_eq] at h1
    have h2 := hP.row s.f0.toNat (by omega)
    refine ⟨?_, h2.2.2.2⟩
    rw [targetP_length, colsP, if_neg (hcol s hx)]
    exact h2.2.1
  · rw [rowsOf, List.length_map]
    have := hP.few
    rcases sharesOk_count ls _ hs (Int.le_refl _) with h | h
    · omega
    · rw [h]; simp
  · rw [targetP_length, colsP]
    split
    · decide
    · have := (hP.row 0 (by omega)).1
      omega
  · rw [targetP_length, colsP]
    split
    · decide
    · exact (hP.row 0 (by omega)).2.2.1
end Go.Proofs.Ytdbamhckgaoibaa.P
namespace Go.Proofs.Ytdbamhckgaoibaa.P
open Go.RowKit Go.Proofs.YtdbamhckgaoibaaW.PrintWords Go.Proofs.YtdbamhckgaoibaaW.PrintLast Go.Proofs.YtdbamhckgaoibaaW.PrintMore
def shareQ (rows : List (List Int)) (s : List Int) (i : Nat) : S38 := ⟨(i : Int), Sig.dot (rows.getD i []) s % 1073741789⟩
def sharesQ (rows : List (List Int)) (s : List Int) : List S38 := (List.range rows.length).map (shareQ rows s)
def commitQ (n : Int) : Int := (4 : Int) ^ (n % 1073741789).toNat % 2147483579
theorem pow_four (n : Int) : group_Pow.f 4 n = some (commitQ n, 0) := by
  unfold group_Pow.f
  rw [el_four]; rfl
theorem deal_l1 (sh : List S38) (s : List Int) (hs : s.length < 1000000) (k : Nat) : ∀ d j acc, s.length - j = d → j ≤ s.length → acc.length ≤ j → dealing_Deal.l1 (k + d + 1) sh acc s (s.length : Int) (j : Int) = some (sh, acc ++ (s.drop j).map commitQ, 0) := by
  intro d
  induction d with
  | zero =>
    intro j acc hd hj ha
    obtain rfl : j = s.length := by omega
    rw [dealing_Deal.l1, if_neg (by omega), List.drop_length]; simp
  | succ d ih =>
    intro j acc hd hj ha
    rw [dealing_Deal.l1, if_pos (by omega), if_pos (by omega), if_pos (by omega), rd_nat, pow_four]
    simp only [Option.bind_some]
    rw [if_pos trivial, if_pos (by omega), wrap_succ (by omega), ← Nat.add_assoc, ih (j + 1) _ (by omega) (by omega) (by rw [List.length_append, List.length_singleton]; omega)]
    have e : s.getD j 0 = s[j] := by rw [List.getD_eq_getElem?_getD, List.getElem?_eq_getElem (by omega)]; rfl
    rw [List.drop_eq_getElem_cons (show j < s.length by omega), List.map_cons, e, List.append_assoc]; rfl
theorem deal_l0 (rows : List (List Int)) (s : List Int) (hrn : rows.length < 1000000) (hs : s.length < 1000000) (hrow : ∀ i, i < rows.length → (rows.getD i []).length ≤ s.length) (k : Nat) :
    ∀ d j, rows.length - j = d → j ≤ rows.length → dealing_Deal.l0 (k + (s.length + 1) + d + 1) ((List.range j).map (shareQ rows s)) [] s rows (rows.length : Int) (j : Int) = some (sharesQ rows s, s.map commitQ, 0) := by
  intro d
  induction d with
  | zero =>
    intro j hd hj
    obtain rfl : j = rows.length := by omega
    rw [dealing_Deal.l0, if_neg (by omega)]
    have := deal_l1 (sharesQ rows s) s hs k s.length 0 [] (by omega) (by omega) (Nat.le_refl _)
    rw [List.drop_zero, List.nil_append] at this
    exact this
  | succ d ih =>
    intro j hd hj
    rw [dealing_Deal.l0, if_pos (by omega), if_pos (by omega), if_pos (by omega), rd_L1_nat]
    unfold dealing_times.f
    rw [if_pos (hrow j (by omega))]
    simp only [Option.bind_some]
    rw [if_pos (by simp; omega), wrap_succ (by omega), ← Nat.add_assoc]
    have e : (List.range j).map (shareQ rows s) ++ [⟨(j : Int), Sig.dot (rows.getD j []) s % 1073741789⟩] = (List.range (j + 1)).map (shareQ rows s) := by
      rw [List.range_succ, List.map_append]; rfl
    rw [e]
    exact ih (j + 1) (by omega) (by omega)
theorem inQ_any {x : Int} (h : inQ x = true) : ([x] : List Int).any outQ = false := by
  unfold inQ at h
  simp only [Bool.and_eq_true, decide_eq_true_eq] at h
  simp [outQ]
  omega
theorem deal_math {rows : List (List Int)} {owners : List Int} {secret : Int} {random : List Int} (hc : checkP rows owners = 0) (hs : inQ secret = true) (hr : random.any outQ = false) (hl : random.length + 1 = colsP rows) (k : Nat) (hk : 300 ≤ k) :
    dealing_Deal.f k rows owners secret random = some (sharesQ rows (secret :: random), (secret :: random).map commitQ, 0) := by
  have hP := check_ok hc
  have hcl : colsP rows ≤ 64 := by
    unfold colsP
    split
    · decide
    · exact (hP.row 0 (by omega)).2.2.1
  have hfew := hP.few
  unfold dealing_Deal.f
  rw [check_math _ _ _ (by omega), hc]
  simp only [Option.bind_some]
  rw [if_pos trivial]
  unfold dealing_numbers.f contains_outQ.f
  simp only [Option.bind_some]
  rw [inQ_any hs, hr, cols_math]
  simp only [Bool.not_false, Option.bind_some, if_true]
  have hw : wrap64 ((colsP rows : Int) - 1) = (random.length : Int) := by unfold wrap64; omega
  rw [hw, bne_self_eq_false]
  obtain ⟨k, rfl⟩ : ∃ k', k = k' + ((secret :: random).length + 1) + rows.length + 1 + 1 := ⟨k - ((secret :: random).length + 1) - rows.length - 2, by rw [List.length_cons]; omega⟩
  rw [dealing_Deal.j0, if_neg (by decide)]
  unfold slices_Concat_int_int.f
  rw [if_pos (by simp [sizesOf]; omega)]
  simp only [Option.bind_some]
  have := deal_l0 rows (secret :: random) (by omega) (by rw [List.length_cons]; omega) (fun i hi => by
    have h1 := (hP.row i hi).2.1
    rw [List.length_cons, hl, colsP, if_neg (by omega), h1]; exact Nat.le_refl _) k rows.length 0 (by omega) (by omega)
  simpa using this
end Go.Proofs.Ytdbamhckgaoibaa.P
namespace Go.Proofs.Ytdbamhckgaoibaa.P
open Go.RowKit Go.Proofs.YtdbamhckgaoibaaW.PrintWords Go.Proofs.YtdbamhckgaoibaaW.PrintLast Go.Proofs.YtdbamhckgaoibaaW.PrintMore
theorem commitQ_mod (a : Int) : commitQ (a % 1073741789) = commitQ a := by unfold commitQ; rw [Int.emod_emod]
theorem commitQ_el (a : Int) : isEl (commitQ a) = true := el_pow el_four _
theorem commitQ_nat {a : Int} {m : Nat} (h : (a % 1073741789).toNat = m % ordQ) : commitQ a = 4 ^ m % 2147483579 := by
  unfold commitQ
  rw [h, ← el_pow_mod el_four]
theorem commitQ_add (a b : Int) : commitQ a * commitQ b % 2147483579 = commitQ (a + b) := by
  rw [commitQ_nat (a := a + b) (m := (a % 1073741789).toNat + (b % 1073741789).toNat) (by unfold ordQ; omega)]
  unfold commitQ
  rw [← Int.mul_emod, ← Int.pow_add]
theorem nat_mul_mod (a b : Int) : (a * b % 1073741789).toNat = (a % 1073741789).toNat * (b % 1073741789).toNat % ordQ := by
  have h1 : ((a % 1073741789).toNat : Int) = a % 1073741789 := by omega
  have h2 : ((b % 1073741789).toNat : Int) = b % 1073741789 := by omega
  have h3 : (((a % 1073741789).toNat * (b % 1073741789).toNat % ordQ : Nat) : Int) = a * b % 1073741789 := by
    unfold ordQ
    rw [Int.natCast_emod, Int.natCast_mul, h1, h2, Int.mul_emod a b]; rfl
  omega
theorem commitQ_pow (a e : Int) : commitQ a ^ (e % 1073741789).toNat % 2147483579 = commitQ (a * e) := by
  rw [commitQ_nat (a := a * e) (nat_mul_mod a e)]
  unfold commitQ
  rw [Sig.pow_emod, ← Int.pow_mul]
theorem commitQ_inj {a b : Int} (h : commitQ a = commitQ b) : a % 1073741789 = b % 1073741789 := by
  have := gen_inj (a := (a % 1073741789).toNat) (b := (b % 1073741789).toNat) (by unfold ordQ; omega) (by unfold ordQ; omega) h
  omega
theorem commitQ_zero : commitQ 0 = 1 := by unfold commitQ; rfl
theorem pow_el {c : Int} (h : isEl c = true) (e : Int) : group_Pow.f c e = some (c ^ (e % 1073741789).toNat % 2147483579, 0) := by
  unfold group_Pow.f
  rw [h]; rfl
theorem valid_math (a : Int) : group_Valid.f a = some (isEl a) := by first | rfl | (unfold group_Valid.f; rfl)
theorem el_range {a : Int} (h : isEl a = true) : 1 ≤ a ∧ a < 2147483579 := ⟨((isEl_iff a).1 h).1, ((isEl_iff a).1 h).2.1⟩
theorem mul_els {a b : Int} (ha : isEl a = true) (hb : isEl b = true) : group_Mul.f a b = some (a * b % 2147483579, 0) := by
  have h1 := el_range ha
  have h2 := el_range hb
  have hr := mulP_range (x := a) (y := b) ⟨by omega, h1.2⟩ ⟨by omega, h2.2⟩
  unfold group_Mul.f
  rw [valid_math, valid_math, ha, hb]
  simp only [Option.bind_some, if_true]
  rw [wrap_small hr.1 (by omega), tmod_small (m := 2147483579) hr.1]
theorem commit_pow (a e : Int) : group_Pow.f (commitQ a) e = some (commitQ (a * e), 0) := by rw [pow_el (commitQ_el a), commitQ_pow]
theorem commit_mul (y z : Int) : group_Mul.f (commitQ y) (commitQ z) = some (commitQ (y + z), 0) := by rw [mul_els (commitQ_el y) (commitQ_el z), commitQ_add]
theorem public_gen (C : Int → Int) (hp : ∀ a e, group_Pow.f (C a) e = some (C (a * e), 0)) (hm : ∀ y z, group_Mul.f (C y) (C z) = some (C (y + z), 0)) (rows : List (List Int)) (owners : List Int) (s : List Int) (i : Nat) (hs : s.length < 1000000) (hi : i < rows.length) (hrow : (rows.getD i []).length = s.length) (k : Nat) :
    ∀ d j (y : Int), s.length - j = d → j ≤ s.length → dealing_Public.l0 (k + d + 1) (i : Int) (C y) (s.map C) (s.length : Int) (j : Int) rows owners = some (C (y + Sig.dot ((rows.getD i []).drop j) (s.drop j)), 0) := by
  intro d
  induction d with
  | zero =>
    intro j y hd hj
    obtain rfl : j = s.length := by omega
    rw [dealing_Public.l0, if_neg (by omega), List.drop_length, Sig.dot_nil_r, Int.add_zero]
  | succ d ih =>
    intro j y hd hj
    have e1 : (s.map C).getD j 0 = C s[j] := by
      rw [List.getD_eq_getElem?_getD, List.getElem?_map, List.getElem?_eq_getElem (by omega)]; rfl
    have hjr : j < (rows.getD i []).length := by omega
    have e2 : (rows.getD i []).getD j 0 = (rows.getD i [])[j] := by rw [List.getD_eq_getElem?_getD, List.getElem?_eq_getElem hjr]; rfl
    rw [dealing_Public.l0, if_pos (by omega), if_pos (by omega), if_pos (by rw [List.length_map]; omega), if_pos (by omega), if_pos (by omega), rd_L1_nat, if_pos (by omega), rd_nat, rd_nat, e1, e2, hp, Option.bind_some, if_pos rfl, hm, Option.bind_some, if_pos rfl]
    rw [wrap_succ (by omega), ← Nat.add_assoc, ih (j + 1) _ (by omega) (by omega)]
    rw [List.drop_eq_getElem_cons (show j < s.length by omega), List.drop_eq_getElem_cons hjr, Sig.dot, Int.mul_comm (rows.getD i [])[j], Int.add_assoc]
end Go.Proofs.Ytdbamhckgaoibaa.P
namespace Go.Proofs.Ytdbamhckgaoibaa.P
open Go.RowKit Go.Proofs.YtdbamhckgaoibaaW.PrintWords Go.Proofs.YtdbamhckgaoibaaW.PrintLast Go.Proofs.YtdbamhckgaoibaaW.PrintMore
theorem noEl_commit (s : List Int) : (s.map commitQ).any noEl = false := by
  rw [List.any_eq_false]
  intro x hx
  obtain ⟨n, _, rfl⟩ := List.mem_map.1 hx
  unfold noEl
  rw [commitQ_el]; decide
theorem check_dealt {rows : List (List Int)} {owners : List Int} {s : List Int} (hc : checkP rows owners = 0) (hl : s.length = colsP rows) (k : Nat) (hk : 300 ≤ k) : dealing_check.f k rows owners (s.map commitQ) = some 0 := by
  unfold dealing_check.f
  rw [check_math _ _ _ (by omega), hc, Option.bind_some, if_pos rfl, cols_math, Option.bind_some, if_pos (by rw [List.length_map, hl])]
  unfold contains_noEl.f
  rw [noEl_commit, Option.bind_some, if_neg (by decide)]
theorem public_dealt {rows : List (List Int)} {owners : List Int} {s : List Int} (hc : checkP rows owners = 0) (hl : s.length = colsP rows) {i : Nat} (hi : i < rows.length) (k : Nat) (hk : 300 ≤ k) :
    dealing_Public.f k rows owners (s.map commitQ) (i : Int) = some (commitQ (Sig.dot (rows.getD i []) s), 0) := by
  have hP := check_ok hc
  have hcl : colsP rows = (rows.getD 0 []).length := by rw [colsP, if_neg (by omega)]
  have h0 := hP.row 0 (by omega)
  have h1 := hP.row i hi
  unfold dealing_Public.f
  rw [check_dealt hc hl k hk, Option.bind_some, if_pos rfl, if_neg (by omega), decide_eq_false (by omega)]
  obtain ⟨k, rfl⟩ : ∃ k', k = k' + s.length + 1 + 1 := ⟨k - s.length - 2, by omega⟩
  rw [dealing_Public.j0, if_neg (by decide)]
  have := public_gen commitQ commit_pow commit_mul rows owners s i (by omega) hi (by omega) k s.length 0 0 (by omega) (by omega)
  rw [commitQ_zero, List.drop_zero, List.drop_zero, Int.zero_add] at this
  rw [List.length_map]
  exact this
theorem fits_dealt {rows : List (List Int)} {owners : List Int} {s : List Int} (hc : checkP rows owners = 0) (hl : s.length = colsP rows) {i : Nat} (hi : i < rows.length) {v : Int} (hv : inQ v = true) (k : Nat) (hk : 300 ≤ k) :
    dealing_Fits.f k rows owners (s.map commitQ) (i : Int) v = some (commitQ v == commitQ (Sig.dot (rows.getD i []) s), 0) := by
  have hr : dealing_right.f rows owners (i : Int) v = some true := by
    have := right_math rows owners ⟨(i : Int), v⟩
    rw [this]
    unfold rightS
    simp only [hv, Bool.and_true]
    rw [decide_eq_true (by omega), decide_eq_true (by omega)]; rfl
  unfold dealing_Fits.f
  rw [check_dealt hc hl k hk, Option.bind_some, if_pos rfl, hr, Option.bind_some, if_pos rfl, public_dealt hc hl hi k hk, Option.bind_some, if_pos rfl, pow_four, Option.bind_some, if_pos rfl]
end Go.Proofs.Ytdbamhckgaoibaa.P
namespace Go.Proofs.Ytdbamhckgaoibaa.P
open Go.RowKit Go.Proofs.YtdbamhckgaoibaaW.PrintWords Go.Proofs.YtdbamhckgaoibaaW.PrintLast Go.Proofs.YtdbamhckgaoibaaW.PrintMore
attribute [local go_sem] max2_int min2_int max_two min_two max_three min_three max_four min_four
set_option linter.unusedVariables false
set_option linter.unusedSimpArgs false
attribute [local go_sem high] eqA38
mutual
def signatoryref23_Check.l0 : Nat → Int → List (List Int) → List Int → Option (Int)
 | 0, _, _, _ => none
 | k + 1, x3, x266000, x266001 => if x3 < (x266000.length : Int) then (if 0 ≤ x3 then (if ((rd_L1 x266000 x3).length : Int) > 64 then (some 2) else (signatoryref23_Check.l0 k (wrap64 (x3 + 1)) x266000 x266001)) else (none)) else (if (x266000.length : Int) = (x266001.length : Int) then (signatoryref23_Check.l1 k 0 x266000 x266001) else (some 230))
def signatoryref23_Check.l1 : Nat → Int → List (List Int) → List Int → Option (Int)
 | 0, _, _, _ => none
 | k + 1, x4, x266000, x266001 => if x4 < (x266000.length : Int) then (if 0 ≤ x4 then (if ((rd_L1 x266000 x4).length : Int) < 1 then (signatoryref23_Check.j2 k x4 true x266000 x266001) else (if 0 < (x266000.length : Int) then (if ((rd_L1 x266000 x4).length : Int) = ((rd_L1 x266000 0).length : Int) then (if x4 < (x266001.length : Int) then (if (rd x266001 x4) < 0 then (signatoryref23_Check.j2 k x4 true x266000 x266001) else (signatoryref23_Check.j2 k x4 (decide ((rd x266001 x4) ≥ 64)) x266000 x266001)) else (none)) else (signatoryref23_Check.j2 k x4 true x266000 x266001)) else (none))) else (none)) else (some 0)
def signatoryref23_Check.j2 : Nat → Int → Bool → List (List Int) → List Int → Option (Int)
 | 0, _, _, _, _ => none
 | k + 1, x4, x74, x266000, x266001 => if x74 = true then (some 230) else (signatoryref23_Check.l2 k x4 0 x266000 x266001)
def signatoryref23_Check.l2 : Nat → Int → Int → List (List Int) → List Int → Option (Int)
 | 0, _, _, _, _ => none
 | k + 1, x4, x5, x266000, x266001 => if 0 ≤ x4 then (if x4 < (x266000.length : Int) then (if x5 < ((rd_L1 x266000 x4).length : Int) then (if 0 ≤ x5 then (if (rd (rd_L1 x266000 x4) x5) < 0 then (some 230) else (if (rd (rd_L1 x266000 x4) x5) ≥ 1073741789 then (some 230) else (signatoryref23_Check.l2 k x4 (wrap64 (x5 + 1)) x266000 x266001))) else (none)) else (signatoryref23_Check.l1 k (wrap64 (x4 + 1)) x266000 x266001)) else (none)) else (none)
end
def signatoryref23_Check.f (k : Nat) (l0_0 : List (List Int)) (l0_1 : List Int) : Option (Int) := if (l0_0.length : Int) > 64 then (some 2) else (signatoryref23_Check.l0 k 0 l0_0 l0_1)
set_option maxHeartbeats 8000000 in
set_option maxRecDepth 100000 in
theorem signatoryref23_Check.calls (k : Nat) (A0_0 : Option Addr) (c0_0 : Nat) (l0_0 : List (List Int)) (A0_1 : Option Addr) (c0_1 : Nat) (l0_1 : List Int) (r : Int) (w : World) (hr0_0 : Kd.C (Kd.slice 3 (Kd.int .i64)) w A0_0 l0_0.length l0_0) (hc0_0 : l0_0.length ≤ c0_0) (hr0_1 : Kd.C (Kd.int .i64) w A0_1 l0_1.length l0_1) (hc0_1 : l0_1.length ≤ c0_1) (h : signatoryref23_Check.f k l0_0 l0_1 = some r) :
  Calls Try.prog 58 #[.agg #[.slice A0_0 l0_0.length c0_0, .slice A0_1 l0_1.length c0_1]] w fun e w' => e = .returned (.int .i64 r) ∧ Below w.heap.size w w' := by
 have hu25 := Try.underlying25
 have HR0_0 := Aside0.mk hr0_0
 have HC0_0 := Aside0.mk hc0_0
 clear hr0_0 hc0_0
 have HR0_1 := Aside0.mk hr0_1
 have HC0_1 := Aside0.mk hc0_1
 clear hr0_1 hc0_1
 have HB := Aside0.mk (Below.refl w.heap.size w)
 have H : (if (l0_0.length : Int) > 64 then (some 2) else (signatoryref23_Check.l0 k 0 l0_0 l0_1)) = some r := h
 clear h
 by_cases c2 : (l0_0.length : Int) > 64
 ·rw [if_pos c2] at H
  have c2b0 : decide (64 < (l0_0.length : Int)) = true := decide_eq_true c2
  have c2b1 : decide (64 < l0_0.length) = true := decide_eq_true (by omega)
  clear c2
  obtain rfl := Option.some.inj H
  go_enter Try.func58, Try.ntmps58
  go_wp2_with (first | ((with_reducible refine gate_dst (N := 1) rfl ?_); (try (refine gate_guard (by rfl) ?_; dsimp only)); refine box_event ?hg (N := 1) ?hd (cs := #[.slice A0_0 l0_0.length c0_0, .slice A0_1 l0_1.length c0_1]) (t := 25) ?hr ?_; (case hd => rfl); (case hg => rfl); (case hr => first | (go_simp; done) | (go_simp; rfl)); intro gb265 hg w3 hbox hb; have n0_ := Aside0.mk (below_step (by repeat (first | (with_reducible first | exact HB.out | apply below_alloc | apply pw_below_drewN | apply below_drew1) | exact HB.out)) hb); have n1_ := Aside0.mk (hbox); have n2_ := Aside0.mk ((by rw [hg]; exact (below_size (by repeat (first | (with_reducible first | exact HB.out | apply below_alloc | apply pw_below_drewN | apply below_drew1) | exact HB.out))) : w.heap.size ≤ gb265)); have n3_ := Aside0.mk ((by rw [hg]; exact (below_size (by repeat (first | (with_reducible first | exact HB.out | apply below_alloc | apply pw_below_drewN | apply below_drew1) | exact HB.out))) : w.heap.size ≤ gb265)); clear HB; have HB := n0_; have BK265 := n1_; have GW265 := n2_; have GE265 := n3_; clear n0_ n1_ n2_ n3_; clear hb hbox hg; have hcz4_0 : w3.cell? ⟨gb265, 0, none⟩ = some (.slice A0_0 l0_0.length c0_0) := (blk_cell BK265.out 0).trans rfl; have hcz4_1 : w3.cell? ⟨gb265, 1, none⟩ = some (.slice A0_1 l0_1.length c0_1) := (blk_cell BK265.out 1).trans rfl; have hfz4_0 := blk_frozen BK265.out 0; have hfz4_1 := blk_frozen BK265.out 1))
  repeat (go_quiet (first | ((with_reducible refine gate_dst (N := 1) rfl ?_); (try (refine gate_guard (by rfl) ?_; dsimp only)); refine box_event ?hg (N := 1) ?hd (cs := #[.slice A0_0 l0_0.length c0_0, .slice A0_1 l0_1.length c0_1]) (t := 25) ?hr ?_; (case hd => rfl); (case hg => rfl); (case hr => first | (go_simp; done) | (go_simp; rfl)); intro gb265 hg w3 hbox hb; have n0_ := Aside0.mk (below_step (by repeat (first | (with_reducible first | exact HB.out | apply below_alloc | apply pw_below_drewN | apply below_drew1) | exact HB.out)) hb); have n1_ := Aside0.mk (hbox); have n2_ := Aside0.mk ((by rw [hg]; exact (below_size (by repeat (first | (with_reducible first | exact HB.out | apply below_alloc | apply pw_below_drewN | apply below_drew1) | exact HB.out))) : w.heap.size ≤ gb265)); have n3_ := Aside0.mk ((by rw [hg]; exact (below_size (by repeat (first | (with_reducible first | exact HB.out | apply below_alloc | apply pw_below_drewN | apply below_drew1) | exact HB.out))) : w.heap.size ≤ gb265)); clear HB; have HB := n0_; have BK265 := n1_; have GW265 := n2_; have GE265 := n3_; clear n0_ n1_ n2_ n3_; clear hb hbox hg; have hcz4_0 : w3.cell? ⟨gb265, 0, none⟩ = some (.slice A0_0 l0_0.length c0_0) := (blk_cell BK265.out 0).trans rfl; have hcz4_1 : w3.cell? ⟨gb265, 1, none⟩ = some (.slice A0_1 l0_1.length c0_1) := (blk_cell BK265.out 1).trans rfl; have hfz4_0 := blk_frozen BK265.out 0; have hfz4_1 := blk_frozen BK265.out 1)); try go_wp2_with (first | ((with_reducible refine gate_dst (N := 1) rfl ?_); (try (refine gate_guard (by rfl) ?_; dsimp only)); refine box_event ?hg (N := 1) ?hd (cs := #[.slice A0_0 l0_0.length c0_0, .slice A0_1 l0_1.length c0_1]) (t := 25) ?hr ?_; (case hd => rfl); (case hg => rfl); (case hr => first | (go_simp; done) | (go_simp; rfl)); intro gb265 hg w3 hbox hb; have n0_ := Aside0.mk (below_step (by repeat (first | (with_reducible first | exact HB.out | apply below_alloc | apply pw_below_drewN | apply below_drew1) | exact HB.out)) hb); have n1_ := Aside0.mk (hbox); have n2_ := Aside0.mk ((by rw [hg]; exact (below_size (by repeat (first | (with_reducible first | exact HB.out | apply below_alloc | apply pw_below_drewN | apply below_drew1) | exact HB.out))) : w.heap.size ≤ gb265)); have n3_ := Aside0.mk ((by rw [hg]; exact (below_size (by repeat (first | (with_reducible first | exact HB.out | apply below_alloc | apply pw_below_drewN | apply below_drew1) | exact HB.out))) : w.heap.size ≤ gb265)); clear HB; have HB := n0_; have BK265 := n1_; have GW265 := n2_; have GE265 := n3_; clear n0_ n1_ n2_ n3_; clear hb hbox hg; have hcz4_0 : w3.cell? ⟨gb265, 0, none⟩ = some (.slice A0_0 l0_0.length c0_0) := (blk_cell BK265.out 0).trans rfl; have hcz4_1 : w3.cell? ⟨gb265, 1, none⟩ = some (.slice A0_1 l0_1.length c0_1) := (blk_cell BK265.out 1).trans rfl; have hfz4_0 := blk_frozen BK265.out 0; have hfz4_1 := blk_frozen BK265.out 1)))
  go_ret
  exact ⟨by first | rfl | (simp [errW_none, errW_some] <;> rfl) | (simp [*, errW_none, errW_some] <;> rfl), by repeat (first | (with_reducible first | exact HB.out | apply below_alloc | apply pw_below_drewN | apply below_drew1 | refine below_set ?_ GE265.out) | exact HB.out)⟩
 ·rw [if_neg c2] at H
  have c2b0 : decide (64 < (l0_0.length : Int)) = false := decide_eq_false c2
  have c2b1 : decide (64 < l0_0.length) = false := decide_eq_false (by omega)
  clear c2
  have H' := Aside0.mk H
  clear H
  go_enter Try.func58, Try.ntmps58
  go_wp2_with (first | ((with_reducible refine gate_dst (N := 1) rfl ?_); (try (refine gate_guard (by rfl) ?_; dsimp only)); refine box_event ?hg (N := 1) ?hd (cs := #[.slice A0_0 l0_0.length c0_0, .slice A0_1 l0_1.length c0_1]) (t := 25) ?hr ?_; (case hd => rfl); (case hg => rfl); (case hr => first | (go_simp; done) | (go_simp; rfl)); intro gb265 hg w5 hbox hb; have n0_ := Aside0.mk (below_step (by repeat (first | (with_reducible first | exact HB.out | apply below_alloc | apply pw_below_drewN | apply below_drew1) | exact HB.out)) hb); have n1_ := Aside0.mk (hbox); have n2_ := Aside0.mk ((by rw [hg]; exact (below_size (by repeat (first | (with_reducible first | exact HB.out | apply below_alloc | apply pw_below_drewN | apply below_drew1) | exact HB.out))) : w.heap.size ≤ gb265)); have n3_ := Aside0.mk ((by rw [hg]; exact (below_size (by repeat (first | (with_reducible first | exact HB.out | apply below_alloc | apply pw_below_drewN | apply below_drew1) | exact HB.out))) : w.heap.size ≤ gb265)); clear HB; have HB := n0_; have BK265 := n1_; have GW265 := n2_; have GE265 := n3_; clear n0_ n1_ n2_ n3_; clear hb hbox hg; have hcz6_0 : w5.cell? ⟨gb265, 0, none⟩ = some (.slice A0_0 l0_0.length c0_0) := (blk_cell BK265.out 0).trans rfl; have hcz6_1 : w5.cell? ⟨gb265, 1, none⟩ = some (.slice A0_1 l0_1.length c0_1) := (blk_cell BK265.out 1).trans rfl; have hfz6_0 := blk_frozen BK265.out 0; have hfz6_1 := blk_frozen BK265.out 1))
  repeat (go_quiet (first | ((with_reducible refine gate_dst (N := 1) rfl ?_); (try (refine gate_guard (by rfl) ?_; dsimp only)); refine box_event ?hg (N := 1) ?hd (cs := #[.slice A0_0 l0_0.length c0_0, .slice A0_1 l0_1.length c0_1]) (t := 25) ?hr ?_; (case hd => rfl); (case hg => rfl); (case hr => first | (go_simp; done) | (go_simp; rfl)); intro gb265 hg w5 hbox hb; have n0_ := Aside0.mk (below_step (by repeat (first | (with_reducible first | exact HB.out | apply below_alloc | apply pw_below_drewN | apply below_drew1) | exact HB.out)) hb); have n1_ := Aside0.mk (hbox); have n2_ := Aside0.mk ((by rw [hg]; exact (below_size (by repeat (first | (with_reducible first | exact HB.out | apply below_alloc | apply pw_below_drewN | apply below_drew1) | exact HB.out))) : w.heap.size ≤ gb265)); have n3_ := Aside0.mk ((by rw [hg]; exact (below_size (by repeat (first | (with_reducible first | exact HB.out | apply below_alloc | apply pw_below_drewN | apply below_drew1) | exact HB.out))) : w.heap.size ≤ gb265)); clear HB; have HB := n0_; have BK265 := n1_; have GW265 := n2_; have GE265 := n3_; clear n0_ n1_ n2_ n3_; clear hb hbox hg; have hcz6_0 : w5.cell? ⟨gb265, 0, none⟩ = some (.slice A0_0 l0_0.length c0_0) := (blk_cell BK265.out 0).trans rfl; have hcz6_1 : w5.cell? ⟨gb265, 1, none⟩ = some (.slice A0_1 l0_1.length c0_1) := (blk_cell BK265.out 1).trans rfl; have hfz6_0 := blk_frozen BK265.out 0; have hfz6_1 := blk_frozen BK265.out 1)); try go_wp2_with (first | ((with_reducible refine gate_dst (N := 1) rfl ?_); (try (refine gate_guard (by rfl) ?_; dsimp only)); refine box_event ?hg (N := 1) ?hd (cs := #[.slice A0_0 l0_0.length c0_0, .slice A0_1 l0_1.length c0_1]) (t := 25) ?hr ?_; (case hd => rfl); (case hg => rfl); (case hr => first | (go_simp; done) | (go_simp; rfl)); intro gb265 hg w5 hbox hb; have n0_ := Aside0.mk (below_step (by repeat (first | (with_reducible first | exact HB.out | apply below_alloc | apply pw_below_drewN | apply below_drew1) | exact HB.out)) hb); have n1_ := Aside0.mk (hbox); have n2_ := Aside0.mk ((by rw [hg]; exact (below_size (by repeat (first | (with_reducible first | exact HB.out | apply below_alloc | apply pw_below_drewN | apply below_drew1) | exact HB.out))) : w.heap.size ≤ gb265)); have n3_ := Aside0.mk ((by rw [hg]; exact (below_size (by repeat (first | (with_reducible first | exact HB.out | apply below_alloc | apply pw_below_drewN | apply below_drew1) | exact HB.out))) : w.heap.size ≤ gb265)); clear HB; have HB := n0_; have BK265 := n1_; have GW265 := n2_; have GE265 := n3_; clear n0_ n1_ n2_ n3_; clear hb hbox hg; have hcz6_0 : w5.cell? ⟨gb265, 0, none⟩ = some (.slice A0_0 l0_0.length c0_0) := (blk_cell BK265.out 0).trans rfl; have hcz6_1 : w5.cell? ⟨gb265, 1, none⟩ = some (.slice A0_1 l0_1.length c0_1) := (blk_cell BK265.out 1).trans rfl; have hfz6_0 := blk_frozen BK265.out 0; have hfz6_1 := blk_frozen BK265.out 1)))
  go_loopg [3] k (fun kq v3 w' => ∃ (x3_1 : Int), v3 = .int .i64 x3_1 ∧ Aside0 (signatoryref23_Check.l0 kq x3_1 l0_0 l0_1 = some r) ∧ Aside0 (kq ≤ k) ∧ Aside0 (w'.heap[gb265]? = some (.cells #[(.slice A0_0 l0_0.length c0_0), (.slice A0_1 l0_1.length c0_1)] 25 (0, 0))) ∧ Aside0 (Below w.heap.size w w'))
  case atStart => exact ⟨(0), (by first | rfl | (simp; done) | (simp [*]; done)), H', ⟨Nat.le_refl _⟩, ⟨by (with_reducible repeat (first | refine blk_drewN ?_ _ | refine blk_drew ?_ | refine blk_alloc ?_ _)); exact BK265.out⟩, ⟨by repeat (first | (with_reducible first | exact HB.out | apply below_alloc | apply pw_below_drewN | apply below_drew1 | refine below_set ?_ GE265.out) | exact HB.out)⟩⟩
  case round =>
   clear H'
   try clear c2
   try clear c2b0
   try clear c2b1
   try clear p2
   try clear c5
   try clear hcz4_0
   try clear hcz4_1
   try clear hcz6_0
   try clear hcz6_1
   try clear hfz4_0
   try clear hfz4_1
   try clear hfz6_0
   try clear hfz6_1
   obtain ⟨x3_1, rfl, HA, HK1, BK265, HB⟩ := hrel
   cases gk with
   | zero => exact absurd HA.out (by simp [signatoryref23_Check.l0])
   | succ k1 =>
    have H := HA.out
    clear HA
    simp only [signatoryref23_Check.l0] at H
    by_cases c7 : x3_1 < (l0_0.length : Int)
    ·rw [if_pos c7] at H
     have c7b0 : decide (x3_1 < (l0_0.length : Int)) = true := decide_eq_true c7
     clear c7
     by_cases c8 : 0 ≤ x3_1
     ·rw [if_pos c8] at H
      have c8b0 : decide (0 ≤ x3_1) = true := decide_eq_true c8
      clear c8
      by_cases c9 : ((rd_L1 l0_0 x3_1).length : Int) > 64
      ·rw [if_pos c9] at H
       have c9b0 : decide (64 < ((rd_L1 l0_0 x3_1).length : Int)) = true := decide_eq_true c9
       have c9b1 : decide (64 < (rd_L1 l0_0 x3_1).length) = true := decide_eq_true (by omega)
       clear c9
       obtain rfl := Option.some.inj H
       have hcz10_0 : wr.cell? ⟨gb265, 0, none⟩ = some (.slice A0_0 l0_0.length c0_0) := (blk_cell BK265.out 0).trans rfl
       have hcz10_1 : wr.cell? ⟨gb265, 1, none⟩ = some (.slice A0_1 l0_1.length c0_1) := (blk_cell BK265.out 1).trans rfl
       have hfz10_0 := blk_frozen BK265.out 0
       have hfz10_1 := blk_frozen BK265.out 1
       have p266 : 0 ≤ (x3_1 : Int) := of_decide_eq_true (by first | (with_reducible assumption) | assumption)
       have q266 : x3_1 < (l0_0.length : Int) := of_decide_eq_true (by first | (with_reducible assumption) | assumption)
       obtain ⟨ad266, A266_0, c266_0, e266, hx266_0, hl266_0, hi266_0⟩ := at_L1 HR0_0.out x3_1 p266 q266
       cases e266
       replace hx266_0 := (HB.out.cell (World.block_lt_of_cell? w _ hx266_0)).trans hx266_0
       have HR266_0 := Aside0.mk hi266_0
       have HC266_0 := Aside0.mk hl266_0
       clear hi266_0 hl266_0
       replace p266 := eq_true p266
       replace q266 := eq_true q266
       go_wp2
       repeat (go_quiet (fail); try go_wp2)
       go_ret
       exact ⟨by first | rfl | (simp [errW_none, errW_some] <;> rfl) | (simp [*, errW_none, errW_some] <;> rfl), by repeat (first | (with_reducible first | exact HB.out | apply below_alloc | apply pw_below_drewN | apply below_drew1 | refine below_set ?_ GE265.out) | exact HB.out)⟩
      ·rw [if_neg c9] at H
       have c9b0 : decide (64 < ((rd_L1 l0_0 x3_1).length : Int)) = false := decide_eq_false c9
       have c9b1 : decide (64 < (rd_L1 l0_0 x3_1).length) = false := decide_eq_false (by omega)
       clear c9
       have H' := Aside0.mk H
       clear H
       have hcz11_0 : wr.cell? ⟨gb265, 0, none⟩ = some (.slice A0_0 l0_0.length c0_0) := (blk_cell BK265.out 0).trans rfl
       have hcz11_1 : wr.cell? ⟨gb265, 1, none⟩ = some (.slice A0_1 l0_1.length c0_1) := (blk_cell BK265.out 1).trans rfl
       have hfz11_0 := blk_frozen BK265.out 0
       have hfz11_1 := blk_frozen BK265.out 1
       have p266 : 0 ≤ (x3_1 : Int) := of_decide_eq_true (by first | (with_reducible assumption) | assumption)
       have q266 : x3_1 < (l0_0.length : Int) := of_decide_eq_true (by first | (with_reducible assumption) | assumption)
       obtain ⟨ad266, A266_0, c266_0, e266, hx266_0, hl266_0, hi266_0⟩ := at_L1 HR0_0.out x3_1 p266 q266
       cases e266
       replace hx266_0 := (HB.out.cell (World.block_lt_of_cell? w _ hx266_0)).trans hx266_0
       have HR266_0 := Aside0.mk hi266_0
       have HC266_0 := Aside0.mk hl266_0
       clear hi266_0 hl266_0
       replace p266 := eq_true p266
       replace q266 := eq_true q266
       go_wp2
       repeat (go_quiet (fail); try go_wp2)
       go_roundg k1
       case measure => have := HK1.out; omega
       case rel => exact ⟨(wrap64 (x3_1 + 1)), (by first | rfl | (simp; done) | (simp [*]; done)), H', ⟨by have := HK1.out; omega⟩, ⟨by (with_reducible repeat (first | refine blk_drewN ?_ _ | refine blk_drew ?_ | refine blk_alloc ?_ _)); exact BK265.out⟩, ⟨by repeat (first | (with_reducible first | exact HB.out | apply below_alloc | apply pw_below_drewN | apply below_drew1 | refine below_set ?_ GE265.out) | exact HB.out)⟩⟩
     ·rw [if_neg c8] at H
      exact absurd H (by simp)
    ·rw [if_neg c7] at H
     have c7b0 : decide (x3_1 < (l0_0.length : Int)) = false := decide_eq_false c7
     clear c7
     by_cases c12 : (l0_0.length : Int) = (l0_1.length : Int)
     ·rw [if_pos c12] at H
      have c12b0 : ((l0_0.length : Int) == (l0_1.length : Int)) = true := beq_iff_eq.mpr c12
      have c12b1 : ((l0_0.length : Int) != (l0_1.length : Int)) = false := bne_eq_false_iff_eq.mpr c12
      have c12b2 : (l0_0.length == l0_1.length) = true := by first | simpa using c12 | (simp at c12 ⊢; omega)
      clear c12
      have H' := Aside0.mk H
      clear H
      have hcz13_0 : wr.cell? ⟨gb265, 0, none⟩ = some (.slice A0_0 l0_0.length c0_0) := (blk_cell BK265.out 0).trans rfl
      have hcz13_1 : wr.cell? ⟨gb265, 1, none⟩ = some (.slice A0_1 l0_1.length c0_1) := (blk_cell BK265.out 1).trans rfl
      have hfz13_0 := blk_frozen BK265.out 0
      have hfz13_1 := blk_frozen BK265.out 1
      go_wp2
      repeat (go_quiet (fail); try go_wp2)
      go_loopg [4] k1 (fun kq v4 w' => ∃ (x4_2 : Int), v4 = .int .i64 x4_2 ∧ Aside0 (signatoryref23_Check.l1 kq x4_2 l0_0 l0_1 = some r) ∧ Aside0 (kq ≤ k1) ∧ Aside0 (w'.heap[gb265]? = some (.cells #[(.slice A0_0 l0_0.length c0_0), (.slice A0_1 l0_1.length c0_1)] 25 (0, 0))) ∧ Aside0 (Below w.heap.size w w'))
      case atStart => exact ⟨(0), (by first | rfl | (simp; done) | (simp [*]; done)), H', ⟨Nat.le_refl _⟩, ⟨by (with_reducible repeat (first | refine blk_drewN ?_ _ | refine blk_drew ?_ | refine blk_alloc ?_ _)); exact BK265.out⟩, ⟨by repeat (first | (with_reducible first | exact HB.out | apply below_alloc | apply pw_below_drewN | apply below_drew1 | refine below_set ?_ GE265.out) | exact HB.out)⟩⟩
      case round =>
       clear H'
       try clear c1
       try clear c2
       try clear c2b0
       try clear c2b1
       try clear p2
       try clear q2
       try clear hx2
       try clear c5
       try clear p6
       try clear c7
       try clear c7b0
       try clear c8
       try clear c8b0
       try clear c9
       try clear c9b0
       try clear c9b1
       try clear c12
       try clear c12b0
       try clear c12b1
       try clear c12b2
       try clear hcz10_0
       try clear hcz10_1
       try clear hcz11_0
       try clear hcz11_1
       try clear hcz13_0
       try clear hcz13_1
       try clear hcz4_0
       try clear hcz4_1
       try clear hcz6_0
       try clear hcz6_1
       try clear hfz10_0
       try clear hfz10_1
       try clear hfz11_0
       try clear hfz11_1
       try clear hfz13_0
       try clear hfz13_1
       try clear hfz4_0
       try clear hfz4_1
       try clear hfz6_0
       try clear hfz6_1
       try clear hx266_0
       try clear p2
       try clear p266
       try clear q266
       obtain ⟨x4_2, rfl, HA, HK2, BK265, HB⟩ := hrel
       cases gk with
       | zero => exact absurd HA.out (by simp [signatoryref23_Check.l1])
       | succ k2 =>
        have H := HA.out
        clear HA
        simp only [signatoryref23_Check.l1] at H
        by_cases c14 : x4_2 < (l0_0.length : Int)
        ·rw [if_pos c14] at H
         have c14b0 : decide (x4_2 < (l0_0.length : Int)) = true := decide_eq_true c14
         clear c14
         have HC15 := Aside0.mk H
         clear H
         have hcz16_0 : wr.cell? ⟨gb265, 0, none⟩ = some (.slice A0_0 l0_0.length c0_0) := (blk_cell BK265.out 0).trans rfl
         have hcz16_1 : wr.cell? ⟨gb265, 1, none⟩ = some (.slice A0_1 l0_1.length c0_1) := (blk_cell BK265.out 1).trans rfl
         have hfz16_0 := blk_frozen BK265.out 0
         have hfz16_1 := blk_frozen BK265.out 1
         go_upto_region 13 with (fail)
         repeat (go_quiet (fail); go_upto_region 13 with (fail))
         go_cut [74] (fun v74 wc => ∃ (kq : Nat) (x74_14 : Bool), v74 = .bool x74_14 ∧ Aside0 (signatoryref23_Check.j2 kq x4_2 x74_14 l0_0 l0_1 = some r) ∧ Aside0 (kq ≤ k2) ∧ Aside0 (wc.heap[gb265]? = some (.cells #[(.slice A0_0 l0_0.length c0_0), (.slice A0_1 l0_1.length c0_1)] 25 (0, 0))) ∧ Aside0 (Below w.heap.size w wc))
         case first =>
          have H := HC15.out
          clear HC15
          by_cases c17 : 0 ≤ x4_2
          ·rw [if_pos c17] at H
           have c17b0 : decide (0 ≤ x4_2) = true := decide_eq_true c17
           clear c17
           (first | rw [c17b0] | (simp only [i64_w, i32_w]; rw [c17b0]) | skip)
           by_cases c18 : ((rd_L1 l0_0 x4_2).length : Int) < 1
           ·rw [if_pos c18] at H
            have c18b0 : decide (((rd_L1 l0_0 x4_2).length : Int) < 1) = true := decide_eq_true c18
            have c18b1 : decide ((rd_L1 l0_0 x4_2).length < 1) = true := decide_eq_true (by omega)
            clear c18
            have H' := Aside0.mk H
            clear H
            have hcz19_0 : wr.cell? ⟨gb265, 0, none⟩ = some (.slice A0_0 l0_0.length c0_0) := (blk_cell BK265.out 0).trans rfl
            have hcz19_1 : wr.cell? ⟨gb265, 1, none⟩ = some (.slice A0_1 l0_1.length c0_1) := (blk_cell BK265.out 1).trans rfl
            have hfz19_0 := blk_frozen BK265.out 0
            have hfz19_1 := blk_frozen BK265.out 1
            have p267 : 0 ≤ (x4_2 : Int) := of_decide_eq_true (by first | (with_reducible assumption) | assumption)
            have q267 : x4_2 < (l0_0.length : Int) := of_decide_eq_true (by first | (with_reducible assumption) | assumption)
            obtain ⟨ad267, A267_0, c267_0, e267, hx267_0, hl267_0, hi267_0⟩ := at_L1 HR0_0.out x4_2 p267 q267
            cases e267
            replace hx267_0 := (HB.out.cell (World.block_lt_of_cell? w _ hx267_0)).trans hx267_0
            have HR267_0 := Aside0.mk hi267_0
            have HC267_0 := Aside0.mk hl267_0
            clear hi267_0 hl267_0
            replace p267 := eq_true p267
            replace q267 := eq_true q267
            go_wp2
            repeat (go_quiet (fail); try go_wp2)
            go_meet
            case rel => exact ⟨_, (true), (by first | rfl | (simp; done) | (simp [*]; done)), H', ⟨by have := HK1.out; have := HK2.out; first | omega | exact Nat.le_refl _⟩, ⟨by (with_reducible repeat (first | refine blk_drewN ?_ _ | refine blk_drew ?_ | refine blk_alloc ?_ _)); exact BK265.out⟩, ⟨by repeat (first | (with_reducible first | exact HB.out | apply below_alloc | apply pw_below_drewN | apply below_drew1 | refine below_set ?_ GE265.out) | exact HB.out)⟩⟩
           ·rw [if_neg c18] at H
            have c18b0 : decide (((rd_L1 l0_0 x4_2).length : Int) < 1) = false := decide_eq_false c18
            have c18b1 : decide ((rd_L1 l0_0 x4_2).length < 1) = false := decide_eq_false (by omega)
            clear c18
            by_cases c20 : 0 < (l0_0.length : Int)
            ·rw [if_pos c20] at H
             have c20b0 : decide (0 < (l0_0.length : Int)) = true := decide_eq_true c20
             have c20b1 : decide (0 < l0_0.length) = true := decide_eq_true (by omega)
             clear c20
             by_cases c21 : ((rd_L1 l0_0 x4_2).length : Int) = ((rd_L1 l0_0 0).length : Int)
             ·rw [if_pos c21] at H
              have c21b0 : (((rd_L1 l0_0 x4_2).length : Int) == ((rd_L1 l0_0 0).length : Int)) = true := beq_iff_eq.mpr c21
              have c21b1 : (((rd_L1 l0_0 x4_2).length : Int) != ((rd_L1 l0_0 0).length : Int)) = false := bne_eq_false_iff_eq.mpr c21
              have c21b2 : ((rd_L1 l0_0 x4_2).length == (rd_L1 l0_0 0).length) = true := by first | simpa using c21 | (simp at c21 ⊢; omega)
              clear c21
              by_cases c22 : x4_2 < (l0_1.length : Int)
              ·rw [if_pos c22] at H
               have c22b0 : decide (x4_2 < (l0_1.length : Int)) = true := decide_eq_true c22
               clear c22
               by_cases c23 : (rd l0_1 x4_2) < 0
               ·rw [if_pos c23] at H
                have c23b0 : decide ((rd l0_1 x4_2) < 0) = true := decide_eq_true c23
                clear c23
                have H' := Aside0.mk H
                clear H
                have hcz24_0 : wr.cell? ⟨gb265, 0, none⟩ = some (.slice A0_0 l0_0.length c0_0) := (blk_cell BK265.out 0).trans rfl
                have hcz24_1 : wr.cell? ⟨gb265, 1, none⟩ = some (.slice A0_1 l0_1.length c0_1) := (blk_cell BK265.out 1).trans rfl
                have hfz24_0 := blk_frozen BK265.out 0
                have hfz24_1 := blk_frozen BK265.out 1
                have p267 : 0 ≤ (x4_2 : Int) := of_decide_eq_true (by first | (with_reducible assumption) | assumption)
                have q267 : x4_2 < (l0_0.length : Int) := of_decide_eq_true (by first | (with_reducible assumption) | assumption)
                obtain ⟨ad267, A267_0, c267_0, e267, hx267_0, hl267_0, hi267_0⟩ := at_L1 HR0_0.out x4_2 p267 q267
                cases e267
                replace hx267_0 := (HB.out.cell (World.block_lt_of_cell? w _ hx267_0)).trans hx267_0
                have HR267_0 := Aside0.mk hi267_0
                have HC267_0 := Aside0.mk hl267_0
                clear hi267_0 hl267_0
                replace p267 := eq_true p267
                replace q267 := eq_true q267
                have p268 : 0 ≤ (x4_2 : Int) := of_decide_eq_true (by first | (with_reducible assumption) | assumption)
                have q268 : x4_2 < (l0_0.length : Int) := of_decide_eq_true (by first | (with_reducible assumption) | assumption)
                obtain ⟨ad268, A268_0, c268_0, e268, hx268_0, hl268_0, hi268_0⟩ := at_L1 HR0_0.out x4_2 p268 q268
                obtain rfl : ad267 = ad268 := (by injection e268)
                replace hx268_0 := (HB.out.cell (World.block_lt_of_cell? w _ hx268_0)).trans hx268_0
                have HR268_0 := Aside0.mk hi268_0
                have HC268_0 := Aside0.mk hl268_0
                clear hi268_0 hl268_0
                replace p268 := eq_true p268
                replace q268 := eq_true q268
                have ea_ := Option.some.inj (hx267_0.symm.trans hx268_0)
                injection ea_ with ea_ en_ ec_
                subst ea_
                subst ec_
                clear en_
                have p269 : 0 ≤ (0 : Int) := (by omega)
                have q269 : 0 < (l0_0.length : Int) := of_decide_eq_true (by first | (with_reducible assumption) | assumption)
                obtain ⟨ad269, A269_0, c269_0, e269, hx269_0, hl269_0, hi269_0⟩ := at_L1 HR0_0.out 0 p269 q269
                obtain rfl : ad267 = ad269 := (by injection e269)
                have qi269 : (0 < l0_0.length) = True := eq_true (by omega)
                (try rw [show ((0 : Int)).toNat = 0 from rfl] at hx269_0)
                (try rw [Addr.add_zero'] at hx269_0)
                replace hx269_0 := (HB.out.cell (World.block_lt_of_cell? w _ hx269_0)).trans hx269_0
                have HR269_0 := Aside0.mk hi269_0
                have HC269_0 := Aside0.mk hl269_0
                clear hi269_0 hl269_0
                replace p269 := eq_true p269
                replace q269 := eq_true q269
                have p270 : 0 ≤ (x4_2 : Int) := of_decide_eq_true (by first | (with_reducible assumption) | assumption)
                have q270 : x4_2 < (l0_1.length : Int) := of_decide_eq_true (by first | (with_reducible assumption) | assumption)
                obtain ⟨ad270, e270, hx270_0⟩ := Kd.at_int HR0_1.out x4_2 p270 q270
                cases e270
                replace hx270_0 := (HB.out.cell (World.block_lt_of_cell? w _ hx270_0)).trans hx270_0
                replace p270 := eq_true p270
                replace q270 := eq_true q270
                go_wp2
                repeat (go_quiet (fail); try go_wp2)
                go_meet
                case rel => exact ⟨_, (true), (by first | rfl | (simp; done) | (simp [*]; done)), H', ⟨by have := HK1.out; have := HK2.out; first | omega | exact Nat.le_refl _⟩, ⟨by (with_reducible repeat (first | refine blk_drewN ?_ _ | refine blk_drew ?_ | refine blk_alloc ?_ _)); exact BK265.out⟩, ⟨by repeat (first | (with_reducible first | exact HB.out | apply below_alloc | apply pw_below_drewN | apply below_drew1 | refine below_set ?_ GE265.out) | exact HB.out)⟩⟩
               ·rw [if_neg c23] at H
                have c23b0 : decide ((rd l0_1 x4_2) < 0) = false := decide_eq_false c23
                clear c23
                have H' := Aside0.mk H
                clear H
                have hcz25_0 : wr.cell? ⟨gb265, 0, none⟩ = some (.slice A0_0 l0_0.length c0_0) := (blk_cell BK265.out 0).trans rfl
                have hcz25_1 : wr.cell? ⟨gb265, 1, none⟩ = some (.slice A0_1 l0_1.length c0_1) := (blk_cell BK265.out 1).trans rfl
                have hfz25_0 := blk_frozen BK265.out 0
                have hfz25_1 := blk_frozen BK265.out 1
                have p267 : 0 ≤ (x4_2 : Int) := of_decide_eq_true (by first | (with_reducible assumption) | assumption)
                have q267 : x4_2 < (l0_0.length : Int) := of_decide_eq_true (by first | (with_reducible assumption) | assumption)
                obtain ⟨ad267, A267_0, c267_0, e267, hx267_0, hl267_0, hi267_0⟩ := at_L1 HR0_0.out x4_2 p267 q267
                cases e267
                replace hx267_0 := (HB.out.cell (World.block_lt_of_cell? w _ hx267_0)).trans hx267_0
                have HR267_0 := Aside0.mk hi267_0
                have HC267_0 := Aside0.mk hl267_0
                clear hi267_0 hl267_0
                replace p267 := eq_true p267
                replace q267 := eq_true q267
                have p268 : 0 ≤ (x4_2 : Int) := of_decide_eq_true (by first | (with_reducible assumption) | assumption)
                have q268 : x4_2 < (l0_0.length : Int) := of_decide_eq_true (by first | (with_reducible assumption) | assumption)
                obtain ⟨ad268, A268_0, c268_0, e268, hx268_0, hl268_0, hi268_0⟩ := at_L1 HR0_0.out x4_2 p268 q268
                obtain rfl : ad267 = ad268 := (by injection e268)
                replace hx268_0 := (HB.out.cell (World.block_lt_of_cell? w _ hx268_0)).trans hx268_0
                have HR268_0 := Aside0.mk hi268_0
                have HC268_0 := Aside0.mk hl268_0
                clear hi268_0 hl268_0
                replace p268 := eq_true p268
                replace q268 := eq_true q268
                have ea_ := Option.some.inj (hx267_0.symm.trans hx268_0)
                injection ea_ with ea_ en_ ec_
                subst ea_
                subst ec_
                clear en_
                have p269 : 0 ≤ (0 : Int) := (by omega)
                have q269 : 0 < (l0_0.length : Int) := of_decide_eq_true (by first | (with_reducible assumption) | assumption)
                obtain ⟨ad269, A269_0, c269_0, e269, hx269_0, hl269_0, hi269_0⟩ := at_L1 HR0_0.out 0 p269 q269
                obtain rfl : ad267 = ad269 := (by injection e269)
                have qi269 : (0 < l0_0.length) = True := eq_true (by omega)
                (try rw [show ((0 : Int)).toNat = 0 from rfl] at hx269_0)
                (try rw [Addr.add_zero'] at hx269_0)
                replace hx269_0 := (HB.out.cell (World.block_lt_of_cell? w _ hx269_0)).trans hx269_0
                have HR269_0 := Aside0.mk hi269_0
                have HC269_0 := Aside0.mk hl269_0
                clear hi269_0 hl269_0
                replace p269 := eq_true p269
                replace q269 := eq_true q269
                have p270 : 0 ≤ (x4_2 : Int) := of_decide_eq_true (by first | (with_reducible assumption) | assumption)
                have q270 : x4_2 < (l0_1.length : Int) := of_decide_eq_true (by first | (with_reducible assumption) | assumption)
                obtain ⟨ad270, e270, hx270_0⟩ := Kd.at_int HR0_1.out x4_2 p270 q270
                cases e270
                replace hx270_0 := (HB.out.cell (World.block_lt_of_cell? w _ hx270_0)).trans hx270_0
                replace p270 := eq_true p270
                replace q270 := eq_true q270
                have p271 : 0 ≤ (x4_2 : Int) := of_decide_eq_true (by first | (with_reducible assumption) | assumption)
                have q271 : x4_2 < (l0_1.length : Int) := of_decide_eq_true (by first | (with_reducible assumption) | assumption)
                obtain ⟨ad271, e271, hx271_0⟩ := Kd.at_int HR0_1.out x4_2 p271 q271
                obtain rfl : ad270 = ad271 := (by injection e271)
                replace hx271_0 := (HB.out.cell (World.block_lt_of_cell? w _ hx271_0)).trans hx271_0
                replace p271 := eq_true p271
                replace q271 := eq_true q271
                go_wp2
                repeat (go_quiet (fail); try go_wp2)
                go_meet
                case rel => exact ⟨_, (decide ((rd l0_1 x4_2) ≥ 64)), (by first | rfl | (simp; done) | (simp [*]; done)), H', ⟨by have := HK1.out; have := HK2.out; first | omega | exact Nat.le_refl _⟩, ⟨by (with_reducible repeat (first | refine blk_drewN ?_ _ | refine blk_drew ?_ | refine blk_alloc ?_ _)); exact BK265.out⟩, ⟨by repeat (first | (with_reducible first | exact HB.out | apply below_alloc | apply pw_below_drewN | apply below_drew1 | refine below_set ?_ GE265.out) | exact HB.out)⟩⟩
              ·rw [if_neg c22] at H
               exact absurd H (by simp)
             ·rw [if_neg c21] at H
              have c21b0 : (((rd_L1 l0_0 x4_2).length : Int) == ((rd_L1 l0_0 0).length : Int)) = false := beq_eq_false_iff_ne.mpr c21
              have c21b1 : (((rd_L1 l0_0 x4_2).length : Int) != ((rd_L1 l0_0 0).length : Int)) = true := bne_iff_ne.mpr c21
              have c21b2 : ((rd_L1 l0_0 x4_2).length == (rd_L1 l0_0 0).length) = false := by first | simpa using c21 | (simp at c21 ⊢; omega)
              have H' := Aside0.mk H
              clear H
              have hcz26_0 : wr.cell? ⟨gb265, 0, none⟩ = some (.slice A0_0 l0_0.length c0_0) := (blk_cell BK265.out 0).trans rfl
              have hcz26_1 : wr.cell? ⟨gb265, 1, none⟩ = some (.slice A0_1 l0_1.length c0_1) := (blk_cell BK265.out 1).trans rfl
              have hfz26_0 := blk_frozen BK265.out 0
              have hfz26_1 := blk_frozen BK265.out 1
              have p267 : 0 ≤ (x4_2 : Int) := of_decide_eq_true (by first | (with_reducible assumption) | assumption)
              have q267 : x4_2 < (l0_0.length : Int) := of_decide_eq_true (by first | (with_reducible assumption) | assumption)
              obtain ⟨ad267, A267_0, c267_0, e267, hx267_0, hl267_0, hi267_0⟩ := at_L1 HR0_0.out x4_2 p267 q267
              cases e267
              replace hx267_0 := (HB.out.cell (World.block_lt_of_cell? w _ hx267_0)).trans hx267_0
              have HR267_0 := Aside0.mk hi267_0
              have HC267_0 := Aside0.mk hl267_0
              clear hi267_0 hl267_0
              replace p267 := eq_true p267
              replace q267 := eq_true q267
              have p268 : 0 ≤ (x4_2 : Int) := of_decide_eq_true (by first | (with_reducible assumption) | assumption)
              have q268 : x4_2 < (l0_0.length : Int) := of_decide_eq_true (by first | (with_reducible assumption) | assumption)
              obtain ⟨ad268, A268_0, c268_0, e268, hx268_0, hl268_0, hi268_0⟩ := at_L1 HR0_0.out x4_2 p268 q268
              obtain rfl : ad267 = ad268 := (by injection e268)
              replace hx268_0 := (HB.out.cell (World.block_lt_of_cell? w _ hx268_0)).trans hx268_0
              have HR268_0 := Aside0.mk hi268_0
              have HC268_0 := Aside0.mk hl268_0
              clear hi268_0 hl268_0
              replace p268 := eq_true p268
              replace q268 := eq_true q268
              have ea_ := Option.some.inj (hx267_0.symm.trans hx268_0)
              injection ea_ with ea_ en_ ec_
              subst ea_
              subst ec_
              clear en_
              have p269 : 0 ≤ (0 : Int) := (by omega)
              have q269 : 0 < (l0_0.length : Int) := of_decide_eq_true (by first | (with_reducible assumption) | assumption)
              obtain ⟨ad269, A269_0, c269_0, e269, hx269_0, hl269_0, hi269_0⟩ := at_L1 HR0_0.out 0 p269 q269
              obtain rfl : ad267 = ad269 := (by injection e269)
              have qi269 : (0 < l0_0.length) = True := eq_true (by omega)
              (try rw [show ((0 : Int)).toNat = 0 from rfl] at hx269_0)
              (try rw [Addr.add_zero'] at hx269_0)
              replace hx269_0 := (HB.out.cell (World.block_lt_of_cell? w _ hx269_0)).trans hx269_0
              have HR269_0 := Aside0.mk hi269_0
              have HC269_0 := Aside0.mk hl269_0
              clear hi269_0 hl269_0
              replace p269 := eq_true p269
              replace q269 := eq_true q269
              go_wp2
              repeat (go_quiet (fail); try go_wp2)
              go_meet
              case rel => exact ⟨_, (true), (by first | rfl | (simp; done) | (simp [*]; done)), H', ⟨by have := HK1.out; have := HK2.out; first | omega | exact Nat.le_refl _⟩, ⟨by (with_reducible repeat (first | refine blk_drewN ?_ _ | refine blk_drew ?_ | refine blk_alloc ?_ _)); exact BK265.out⟩, ⟨by repeat (first | (with_reducible first | exact HB.out | apply below_alloc | apply pw_below_drewN | apply below_drew1 | refine below_set ?_ GE265.out) | exact HB.out)⟩⟩
            ·rw [if_neg c20] at H
             exact absurd H (by simp)
          ·rw [if_neg c17] at H
           exact absurd H (by simp)
         case rest =>
          clear HC15
          try clear c1
          try clear c2
          try clear c2b0
          try clear c2b1
          try clear p2
          try clear q2
          try clear hx2
          try clear qi2
          try clear c5
          try clear p6
          try clear c7
          try clear c7b0
          try clear c8
          try clear c8b0
          try clear c9
          try clear c9b0
          try clear c9b1
          try clear c12
          try clear c12b0
          try clear c12b1
          try clear c12b2
          try clear c14
          try clear c14b0
          try clear c17
          try clear c17b0
          try clear c18
          try clear c18b0
          try clear c18b1
          try clear c20
          try clear c20b0
          try clear c20b1
          try clear c21
          try clear c21b0
          try clear c21b1
          try clear c21b2
          try clear c22
          try clear c22b0
          try clear c23
          try clear c23b0
          try clear c26
          try clear p26
          try clear q26
          try clear hx26
          try clear qi26
          try clear hcz10_0
          try clear hcz10_1
          try clear hcz11_0
          try clear hcz11_1
          try clear hcz13_0
          try clear hcz13_1
          try clear hcz16_0
          try clear hcz16_1
          try clear hcz19_0
          try clear hcz19_1
          try clear hcz24_0
          try clear hcz24_1
          try clear hcz25_0
          try clear hcz25_1
          try clear hcz26_0
          try clear hcz26_1
          try clear hcz4_0
          try clear hcz4_1
          try clear hcz6_0
          try clear hcz6_1
          try clear hfz10_0
          try clear hfz10_1
          try clear hfz11_0
          try clear hfz11_1
          try clear hfz13_0
          try clear hfz13_1
          try clear hfz16_0
          try clear hfz16_1
          try clear hfz19_0
          try clear hfz19_1
          try clear hfz24_0
          try clear hfz24_1
          try clear hfz25_0
          try clear hfz25_1
          try clear hfz26_0
          try clear hfz26_1
          try clear hfz4_0
          try clear hfz4_1
          try clear hfz6_0
          try clear hfz6_1
          try clear hx266_0
          try clear hx267_0
          try clear hx268_0
          try clear hx269_0
          try clear hx270_0
          try clear hx271_0
          try clear p2
          try clear p266
          try clear p267
          try clear p268
          try clear p269
          try clear p270
          try clear p271
          try clear p6
          try clear q2
          try clear q266
          try clear q267
          try clear q268
          try clear q269
          try clear q270
          try clear q271
          obtain ⟨kq, x74_14, rfl, HA, HJ14, BK265, HB⟩ := hcut
          cases kq with
          | zero => exact absurd HA.out (by simp [signatoryref23_Check.j2])
          | succ kj14 =>
           have H := HA.out
           clear HA
           simp only [signatoryref23_Check.j2] at H
           by_cases c27 : x74_14 = true
           ·subst c27
            have H1 : (some 230) = some r := by rw [if_pos rfl] at H; exact H
            clear H
            have H := H1
            clear H1
            obtain rfl := Option.some.inj H
            go_wp2
            repeat (go_quiet (fail); try go_wp2)
            go_ret
            exact ⟨by first | rfl | (simp [errW_none, errW_some] <;> rfl) | (simp [*, errW_none, errW_some] <;> rfl), by repeat (first | (with_reducible first | exact HB.out | apply below_alloc | apply pw_below_drewN | apply below_drew1 | refine below_set ?_ GE265.out) | exact HB.out)⟩
           ·replace c27 := Bool.eq_false_iff.mpr c27
            subst c27
            have H1 : (signatoryref23_Check.l2 kj14 x4_2 0 l0_0 l0_1) = some r := by rw [if_neg (show ¬ (false = true) by decide)] at H; exact H
            clear H
            have H := H1
            clear H1
            have H' := Aside0.mk H
            clear H
            go_wp2
            repeat (go_quiet (fail); try go_wp2)
            go_loopg [5] kj14 (fun kq v5 w' => ∃ (x5_4 : Int), v5 = .int .i64 x5_4 ∧ Aside0 (signatoryref23_Check.l2 kq x4_2 x5_4 l0_0 l0_1 = some r) ∧ Aside0 (kq ≤ kj14) ∧ Aside0 (w'.heap[gb265]? = some (.cells #[(.slice A0_0 l0_0.length c0_0), (.slice A0_1 l0_1.length c0_1)] 25 (0, 0))) ∧ Aside0 (Below w.heap.size w w'))
            case atStart => exact ⟨(0), (by first | rfl | (simp; done) | (simp [*]; done)), H', ⟨Nat.le_refl _⟩, ⟨by (with_reducible repeat (first | refine blk_drewN ?_ _ | refine blk_drew ?_ | refine blk_alloc ?_ _)); exact BK265.out⟩, ⟨by repeat (first | (with_reducible first | exact HB.out | apply below_alloc | apply pw_below_drewN | apply below_drew1 | refine below_set ?_ GE265.out) | exact HB.out)⟩⟩
            case round =>
             clear H'
             try clear c1
             try clear c2
             try clear c2b0
             try clear c2b1
             try clear p2
             try clear q2
             try clear hx2
             try clear qi2
             try clear c5
             try clear p6
             try clear c7
             try clear c7b0
             try clear c8
             try clear c8b0
             try clear c9
             try clear c9b0
             try clear c9b1
             try clear c12
             try clear c12b0
             try clear c12b1
             try clear c12b2
             try clear c14
             try clear c14b0
             try clear c17
             try clear c17b0
             try clear c18
             try clear c18b0
             try clear c18b1
             try clear c20
             try clear c20b0
             try clear c20b1
             try clear c21
             try clear c21b0
             try clear c21b1
             try clear c21b2
             try clear c22
             try clear c22b0
             try clear c23
             try clear c23b0
             try clear c26
             try clear p26
             try clear q26
             try clear hx26
             try clear qi26
             try clear c27
             try clear p27
             try clear q27
             try clear hx27
             try clear hcz10_0
             try clear hcz10_1
             try clear hcz11_0
             try clear hcz11_1
             try clear hcz13_0
             try clear hcz13_1
             try clear hcz16_0
             try clear hcz16_1
             try clear hcz19_0
             try clear hcz19_1
             try clear hcz24_0
             try clear hcz24_1
             try clear hcz25_0
             try clear hcz25_1
             try clear hcz26_0
             try clear hcz26_1
             try clear hcz4_0
             try clear hcz4_1
             try clear hcz6_0
             try clear hcz6_1
             try clear hfz10_0
             try clear hfz10_1
             try clear hfz11_0
             try clear hfz11_1
             try clear hfz13_0
             try clear hfz13_1
             try clear hfz16_0
             try clear hfz16_1
             try clear hfz19_0
             try clear hfz19_1
             try clear hfz24_0
             try clear hfz24_1
             try clear hfz25_0
             try clear hfz25_1
             try clear hfz26_0
             try clear hfz26_1
             try clear hfz4_0
             try clear hfz4_1
             try clear hfz6_0
             try clear hfz6_1
             try clear hx266_0
             try clear hx267_0
             try clear hx268_0
             try clear hx269_0
             try clear hx270_0
             try clear hx271_0
             try clear p2
             try clear p26
             try clear p266
             try clear p267
             try clear p268
             try clear p269
             try clear p270
             try clear p271
             try clear p6
             try clear q2
             try clear q26
             try clear q266
             try clear q267
             try clear q268
             try clear q269
             try clear q270
             try clear q271
             obtain ⟨x5_4, rfl, HA, HK4, BK265, HB⟩ := hrel
             cases gk with
             | zero => exact absurd HA.out (by simp [signatoryref23_Check.l2])
             | succ k4 =>
              have H := HA.out
              clear HA
              simp only [signatoryref23_Check.l2] at H
              by_cases c28 : 0 ≤ x4_2
              ·rw [if_pos c28] at H
               have c28b0 : decide (0 ≤ x4_2) = true := decide_eq_true c28
               clear c28
               by_cases c29 : x4_2 < (l0_0.length : Int)
               ·rw [if_pos c29] at H
                have c29b0 : decide (x4_2 < (l0_0.length : Int)) = true := decide_eq_true c29
                clear c29
                by_cases c30 : x5_4 < ((rd_L1 l0_0 x4_2).length : Int)
                ·rw [if_pos c30] at H
                 have c30b0 : decide (x5_4 < ((rd_L1 l0_0 x4_2).length : Int)) = true := decide_eq_true c30
                 clear c30
                 by_cases c31 : 0 ≤ x5_4
                 ·rw [if_pos c31] at H
                  have c31b0 : decide (0 ≤ x5_4) = true := decide_eq_true c31
                  clear c31
                  by_cases c32 : (rd (rd_L1 l0_0 x4_2) x5_4) < 0
                  ·rw [if_pos c32] at H
                   have c32b0 : decide ((rd (rd_L1 l0_0 x4_2) x5_4) < 0) = true := decide_eq_true c32
                   clear c32
                   obtain rfl := Option.some.inj H
                   have hcz33_0 : wr.cell? ⟨gb265, 0, none⟩ = some (.slice A0_0 l0_0.length c0_0) := (blk_cell BK265.out 0).trans rfl
                   have hcz33_1 : wr.cell? ⟨gb265, 1, none⟩ = some (.slice A0_1 l0_1.length c0_1) := (blk_cell BK265.out 1).trans rfl
                   have hfz33_0 := blk_frozen BK265.out 0
                   have hfz33_1 := blk_frozen BK265.out 1
                   have p272 : 0 ≤ (x4_2 : Int) := of_decide_eq_true (by first | (with_reducible assumption) | assumption)
                   have q272 : x4_2 < (l0_0.length : Int) := of_decide_eq_true (by first | (with_reducible assumption) | assumption)
                   obtain ⟨ad272, A272_0, c272_0, e272, hx272_0, hl272_0, hi272_0⟩ := at_L1 HR0_0.out x4_2 p272 q272
                   cases e272
                   replace hx272_0 := (HB.out.cell (World.block_lt_of_cell? w _ hx272_0)).trans hx272_0
                   have HR272_0 := Aside0.mk hi272_0
                   have HC272_0 := Aside0.mk hl272_0
                   clear hi272_0 hl272_0
                   replace p272 := eq_true p272
                   replace q272 := eq_true q272
                   have p273 : 0 ≤ (x4_2 : Int) := of_decide_eq_true (by first | (with_reducible assumption) | assumption)
                   have q273 : x4_2 < (l0_0.length : Int) := of_decide_eq_true (by first | (with_reducible assumption) | assumption)
                   obtain ⟨ad273, A273_0, c273_0, e273, hx273_0, hl273_0, hi273_0⟩ := at_L1 HR0_0.out x4_2 p273 q273
                   obtain rfl : ad272 = ad273 := (by injection e273)
                   replace hx273_0 := (HB.out.cell (World.block_lt_of_cell? w _ hx273_0)).trans hx273_0
                   have HR273_0 := Aside0.mk hi273_0
                   have HC273_0 := Aside0.mk hl273_0
                   clear hi273_0 hl273_0
                   replace p273 := eq_true p273
                   replace q273 := eq_true q273
                   have ea_ := Option.some.inj (hx272_0.symm.trans hx273_0)
                   injection ea_ with ea_ en_ ec_
                   subst ea_
                   subst ec_
                   clear en_
                   have p274 : 0 ≤ (x5_4 : Int) := of_decide_eq_true (by first | (with_reducible assumption) | assumption)
                   have q274 : x5_4 < ((rd_L1 l0_0 x4_2).length : Int) := of_decide_eq_true (by first | (with_reducible assumption) | assumption)
                   obtain ⟨ad274, e274, hx274_0⟩ := Kd.at_int HR273_0.out x5_4 p274 q274
                   cases e274
                   replace hx274_0 := (HB.out.cell (World.block_lt_of_cell? w _ hx274_0)).trans hx274_0
                   replace p274 := eq_true p274
                   replace q274 := eq_true q274
                   go_wp2
                   repeat (go_quiet (fail); try go_wp2)
                   go_ret
                   exact ⟨by first | rfl | (simp [errW_none, errW_some] <;> rfl) | (simp [*, errW_none, errW_some] <;> rfl), by repeat (first | (with_reducible first | exact HB.out | apply below_alloc | apply pw_below_drewN | apply below_drew1 | refine below_set ?_ GE265.out) | exact HB.out)⟩
                  ·rw [if_neg c32] at H
                   have c32b0 : decide ((rd (rd_L1 l0_0 x4_2) x5_4) < 0) = false := decide_eq_false c32
                   clear c32
                   by_cases c34 : (rd (rd_L1 l0_0 x4_2) x5_4) ≥ 1073741789
                   ·rw [if_pos c34] at H
                    have c34b0 : decide (1073741789 ≤ (rd (rd_L1 l0_0 x4_2) x5_4)) = true := decide_eq_true c34
                    clear c34
                    obtain rfl := Option.some.inj H
                    have hcz35_0 : wr.cell? ⟨gb265, 0, none⟩ = some (.slice A0_0 l0_0.length c0_0) := (blk_cell BK265.out 0).trans rfl
                    have hcz35_1 : wr.cell? ⟨gb265, 1, none⟩ = some (.slice A0_1 l0_1.length c0_1) := (blk_cell BK265.out 1).trans rfl
                    have hfz35_0 := blk_frozen BK265.out 0
                    have hfz35_1 := blk_frozen BK265.out 1
                    have p272 : 0 ≤ (x4_2 : Int) := of_decide_eq_true (by first | (with_reducible assumption) | assumption)
                    have q272 : x4_2 < (l0_0.length : Int) := of_decide_eq_true (by first | (with_reducible assumption) | assumption)
                    obtain ⟨ad272, A272_0, c272_0, e272, hx272_0, hl272_0, hi272_0⟩ := at_L1 HR0_0.out x4_2 p272 q272
                    cases e272
                    replace hx272_0 := (HB.out.cell (World.block_lt_of_cell? w _ hx272_0)).trans hx272_0
                    have HR272_0 := Aside0.mk hi272_0
                    have HC272_0 := Aside0.mk hl272_0
                    clear hi272_0 hl272_0
                    replace p272 := eq_true p272
                    replace q272 := eq_true q272
                    have p273 : 0 ≤ (x4_2 : Int) := of_decide_eq_true (by first | (with_reducible assumption) | assumption)
                    have q273 : x4_2 < (l0_0.length : Int) := of_decide_eq_true (by first | (with_reducible assumption) | assumption)
                    obtain ⟨ad273, A273_0, c273_0, e273, hx273_0, hl273_0, hi273_0⟩ := at_L1 HR0_0.out x4_2 p273 q273
                    obtain rfl : ad272 = ad273 := (by injection e273)
                    replace hx273_0 := (HB.out.cell (World.block_lt_of_cell? w _ hx273_0)).trans hx273_0
                    have HR273_0 := Aside0.mk hi273_0
                    have HC273_0 := Aside0.mk hl273_0
                    clear hi273_0 hl273_0
                    replace p273 := eq_true p273
                    replace q273 := eq_true q273
                    have ea_ := Option.some.inj (hx272_0.symm.trans hx273_0)
                    injection ea_ with ea_ en_ ec_
                    subst ea_
                    subst ec_
                    clear en_
                    have p274 : 0 ≤ (x5_4 : Int) := of_decide_eq_true (by first | (with_reducible assumption) | assumption)
                    have q274 : x5_4 < ((rd_L1 l0_0 x4_2).length : Int) := of_decide_eq_true (by first | (with_reducible assumption) | assumption)
                    obtain ⟨ad274, e274, hx274_0⟩ := Kd.at_int HR273_0.out x5_4 p274 q274
                    cases e274
                    replace hx274_0 := (HB.out.cell (World.block_lt_of_cell? w _ hx274_0)).trans hx274_0
                    replace p274 := eq_true p274
                    replace q274 := eq_true q274
                    have p275 : 0 ≤ (x4_2 : Int) := of_decide_eq_true (by first | (with_reducible assumption) | assumption)
                    have q275 : x4_2 < (l0_0.length : Int) := of_decide_eq_true (by first | (with_reducible assumption) | assumption)
                    obtain ⟨ad275, A275_0, c275_0, e275, hx275_0, hl275_0, hi275_0⟩ := at_L1 HR0_0.out x4_2 p275 q275
                    obtain rfl : ad272 = ad275 := (by injection e275)
                    replace hx275_0 := (HB.out.cell (World.block_lt_of_cell? w _ hx275_0)).trans hx275_0
                    have HR275_0 := Aside0.mk hi275_0
                    have HC275_0 := Aside0.mk hl275_0
                    clear hi275_0 hl275_0
                    replace p275 := eq_true p275
                    replace q275 := eq_true q275
                    have ea_ := Option.some.inj (hx272_0.symm.trans hx275_0)
                    injection ea_ with ea_ en_ ec_
                    subst ea_
                    subst ec_
                    clear en_
                    have p276 : 0 ≤ (x5_4 : Int) := of_decide_eq_true (by first | (with_reducible assumption) | assumption)
                    have q276 : x5_4 < ((rd_L1 l0_0 x4_2).length : Int) := of_decide_eq_true (by first | (with_reducible assumption) | assumption)
                    obtain ⟨ad276, e276, hx276_0⟩ := Kd.at_int HR275_0.out x5_4 p276 q276
                    cases e276
                    replace hx276_0 := (HB.out.cell (World.block_lt_of_cell? w _ hx276_0)).trans hx276_0
                    replace p276 := eq_true p276
                    replace q276 := eq_true q276
                    go_wp2
                    repeat (go_quiet (fail); try go_wp2)
                    go_ret
                    exact ⟨by first | rfl | (simp [errW_none, errW_some] <;> rfl) | (simp [*, errW_none, errW_some] <;> rfl), by repeat (first | (with_reducible first | exact HB.out | apply below_alloc | apply pw_below_drewN | apply below_drew1 | refine below_set ?_ GE265.out) | exact HB.out)⟩
                   ·rw [if_neg c34] at H
                    have c34b0 : decide (1073741789 ≤ (rd (rd_L1 l0_0 x4_2) x5_4)) = false := decide_eq_false c34
                    clear c34
                    have H' := Aside0.mk H
                    clear H
                    have hcz36_0 : wr.cell? ⟨gb265, 0, none⟩ = some (.slice A0_0 l0_0.length c0_0) := (blk_cell BK265.out 0).trans rfl
                    have hcz36_1 : wr.cell? ⟨gb265, 1, none⟩ = some (.slice A0_1 l0_1.length c0_1) := (blk_cell BK265.out 1).trans rfl
                    have hfz36_0 := blk_frozen BK265.out 0
                    have hfz36_1 := blk_frozen BK265.out 1
                    have p272 : 0 ≤ (x4_2 : Int) := of_decide_eq_true (by first | (with_reducible assumption) | assumption)
                    have q272 : x4_2 < (l0_0.length : Int) := of_decide_eq_true (by first | (with_reducible assumption) | assumption)
                    obtain ⟨ad272, A272_0, c272_0, e272, hx272_0, hl272_0, hi272_0⟩ := at_L1 HR0_0.out x4_2 p272 q272
                    cases e272
                    replace hx272_0 := (HB.out.cell (World.block_lt_of_cell? w _ hx272_0)).trans hx272_0
                    have HR272_0 := Aside0.mk hi272_0
                    have HC272_0 := Aside0.mk hl272_0
                    clear hi272_0 hl272_0
                    replace p272 := eq_true p272
                    replace q272 := eq_true q272
                    have p273 : 0 ≤ (x4_2 : Int) := of_decide_eq_true (by first | (with_reducible assumption) | assumption)
                    have q273 : x4_2 < (l0_0.length : Int) := of_decide_eq_true (by first | (with_reducible assumption) | assumption)
                    obtain ⟨ad273, A273_0, c273_0, e273, hx273_0, hl273_0, hi273_0⟩ := at_L1 HR0_0.out x4_2 p273 q273
                    obtain rfl : ad272 = ad273 := (by injection e273)
                    replace hx273_0 := (HB.out.cell (World.block_lt_of_cell? w _ hx273_0)).trans hx273_0
                    have HR273_0 := Aside0.mk hi273_0
                    have HC273_0 := Aside0.mk hl273_0
                    clear hi273_0 hl273_0
                    replace p273 := eq_true p273
                    replace q273 := eq_true q273
                    have ea_ := Option.some.inj (hx272_0.symm.trans hx273_0)
                    injection ea_ with ea_ en_ ec_
                    subst ea_
                    subst ec_
                    clear en_
                    have p274 : 0 ≤ (x5_4 : Int) := of_decide_eq_true (by first | (with_reducible assumption) | assumption)
                    have q274 : x5_4 < ((rd_L1 l0_0 x4_2).length : Int) := of_decide_eq_true (by first | (with_reducible assumption) | assumption)
                    obtain ⟨ad274, e274, hx274_0⟩ := Kd.at_int HR273_0.out x5_4 p274 q274
                    cases e274
                    replace hx274_0 := (HB.out.cell (World.block_lt_of_cell? w _ hx274_0)).trans hx274_0
                    replace p274 := eq_true p274
                    replace q274 := eq_true q274
                    have p275 : 0 ≤ (x4_2 : Int) := of_decide_eq_true (by first | (with_reducible assumption) | assumption)
                    have q275 : x4_2 < (l0_0.length : Int) := of_decide_eq_true (by first | (with_reducible assumption) | assumption)
                    obtain ⟨ad275, A275_0, c275_0, e275, hx275_0, hl275_0, hi275_0⟩ := at_L1 HR0_0.out x4_2 p275 q275
                    obtain rfl : ad272 = ad275 := (by injection e275)
                    replace hx275_0 := (HB.out.cell (World.block_lt_of_cell? w _ hx275_0)).trans hx275_0
                    have HR275_0 := Aside0.mk hi275_0
                    have HC275_0 := Aside0.mk hl275_0
                    clear hi275_0 hl275_0
                    replace p275 := eq_true p275
                    replace q275 := eq_true q275
                    have ea_ := Option.some.inj (hx272_0.symm.trans hx275_0)
                    injection ea_ with ea_ en_ ec_
                    subst ea_
                    subst ec_
                    clear en_
                    have p276 : 0 ≤ (x5_4 : Int) := of_decide_eq_true (by first | (with_reducible assumption) | assumption)
                    have q276 : x5_4 < ((rd_L1 l0_0 x4_2).length : Int) := of_decide_eq_true (by first | (with_reducible assumption) | assumption)
                    obtain ⟨ad276, e276, hx276_0⟩ := Kd.at_int HR275_0.out x5_4 p276 q276
                    cases e276
                    replace hx276_0 := (HB.out.cell (World.block_lt_of_cell? w _ hx276_0)).trans hx276_0
                    replace p276 := eq_true p276
                    replace q276 := eq_true q276
                    go_wp2
                    repeat (go_quiet (fail); try go_wp2)
                    go_roundg k4
                    case measure => have := HK1.out; have := HK2.out; have := HJ14.out; have := HK4.out; omega
                    case rel => exact ⟨(wrap64 (x5_4 + 1)), (by first | rfl | (simp; done) | (simp [*]; done)), H', ⟨by have := HK1.out; have := HK2.out; have := HJ14.out; have := HK4.out; omega⟩, ⟨by (with_reducible repeat (first | refine blk_drewN ?_ _ | refine blk_drew ?_ | refine blk_alloc ?_ _)); exact BK265.out⟩, ⟨by repeat (first | (with_reducible first | exact HB.out | apply below_alloc | apply pw_below_drewN | apply below_drew1 | refine below_set ?_ GE265.out) | exact HB.out)⟩⟩
                 ·rw [if_neg c31] at H
                  exact absurd H (by simp)
                ·rw [if_neg c30] at H
                 have c30b0 : decide (x5_4 < ((rd_L1 l0_0 x4_2).length : Int)) = false := decide_eq_false c30
                 clear c30
                 have H' := Aside0.mk H
                 clear H
                 have hcz37_0 : wr.cell? ⟨gb265, 0, none⟩ = some (.slice A0_0 l0_0.length c0_0) := (blk_cell BK265.out 0).trans rfl
                 have hcz37_1 : wr.cell? ⟨gb265, 1, none⟩ = some (.slice A0_1 l0_1.length c0_1) := (blk_cell BK265.out 1).trans rfl
                 have hfz37_0 := blk_frozen BK265.out 0
                 have hfz37_1 := blk_frozen BK265.out 1
                 have p272 : 0 ≤ (x4_2 : Int) := of_decide_eq_true (by first | (with_reducible assumption) | assumption)
                 have q272 : x4_2 < (l0_0.length : Int) := of_decide_eq_true (by first | (with_reducible assumption) | assumption)
                 obtain ⟨ad272, A272_0, c272_0, e272, hx272_0, hl272_0, hi272_0⟩ := at_L1 HR0_0.out x4_2 p272 q272
                 cases e272
                 replace hx272_0 := (HB.out.cell (World.block_lt_of_cell? w _ hx272_0)).trans hx272_0
                 have HR272_0 := Aside0.mk hi272_0
                 have HC272_0 := Aside0.mk hl272_0
                 clear hi272_0 hl272_0
                 replace p272 := eq_true p272
                 replace q272 := eq_true q272
                 go_wp2
                 repeat (go_quiet (fail); try go_wp2)
                 go_roundg k4
                 case measure => have := HK1.out; have := HK2.out; have := HJ14.out; have := HK4.out; omega
                 case rel => exact ⟨(wrap64 (x4_2 + 1)), (by first | rfl | (simp; done) | (simp [*]; done)), H', ⟨by have := HK1.out; have := HK2.out; have := HJ14.out; have := HK4.out; omega⟩, ⟨by (with_reducible repeat (first | refine blk_drewN ?_ _ | refine blk_drew ?_ | refine blk_alloc ?_ _)); exact BK265.out⟩, ⟨by repeat (first | (with_reducible first | exact HB.out | apply below_alloc | apply pw_below_drewN | apply below_drew1 | refine below_set ?_ GE265.out) | exact HB.out)⟩⟩
               ·rw [if_neg c29] at H
                exact absurd H (by simp)
              ·rw [if_neg c28] at H
               exact absurd H (by simp)
        ·rw [if_neg c14] at H
         have c14b0 : decide (x4_2 < (l0_0.length : Int)) = false := decide_eq_false c14
         clear c14
         obtain rfl := Option.some.inj H
         have hcz38_0 : wr.cell? ⟨gb265, 0, none⟩ = some (.slice A0_0 l0_0.length c0_0) := (blk_cell BK265.out 0).trans rfl
         have hcz38_1 : wr.cell? ⟨gb265, 1, none⟩ = some (.slice A0_1 l0_1.length c0_1) := (blk_cell BK265.out 1).trans rfl
         have hfz38_0 := blk_frozen BK265.out 0
         have hfz38_1 := blk_frozen BK265.out 1
         go_wp2
         repeat (go_quiet (fail); try go_wp2)
         go_ret
         exact ⟨by first | rfl | (simp [errW_none, errW_some] <;> rfl) | (simp [*, errW_none, errW_some] <;> rfl), by repeat (first | (with_reducible first | exact HB.out | apply below_alloc | apply pw_below_drewN | apply below_drew1 | refine below_set ?_ GE265.out) | exact HB.out)⟩
     ·rw [if_neg c12] at H
      have c12b0 : ((l0_0.length : Int) == (l0_1.length : Int)) = false := beq_eq_false_iff_ne.mpr c12
      have c12b1 : ((l0_0.length : Int) != (l0_1.length : Int)) = true := bne_iff_ne.mpr c12
      have c12b2 : (l0_0.length == l0_1.length) = false := by first | simpa using c12 | (simp at c12 ⊢; omega)
      obtain rfl := Option.some.inj H
      have hcz39_0 : wr.cell? ⟨gb265, 0, none⟩ = some (.slice A0_0 l0_0.length c0_0) := (blk_cell BK265.out 0).trans rfl
      have hcz39_1 : wr.cell? ⟨gb265, 1, none⟩ = some (.slice A0_1 l0_1.length c0_1) := (blk_cell BK265.out 1).trans rfl
      have hfz39_0 := blk_frozen BK265.out 0
      have hfz39_1 := blk_frozen BK265.out 1
      go_wp2
      repeat (go_quiet (fail); try go_wp2)
      go_ret
      exact ⟨by first | rfl | (simp [errW_none, errW_some] <;> rfl) | (simp [*, errW_none, errW_some] <;> rfl), by repeat (first | (with_reducible first | exact HB.out | apply below_alloc | apply pw_below_drewN | apply below_drew1 | refine below_set ?_ GE265.out) | exact HB.out)⟩
def signatoryref34_Columns.f (l0_0 : List (List Int)) (l0_1 : List Int) : Option (Int) := if (l0_0.length : Int) = 0 then (some 1) else (if 0 < (l0_0.length : Int) then (some ((rd_L1 l0_0 0).length : Int)) else (none))
set_option maxHeartbeats 8000000 in
set_option maxRecDepth 100000 in
theorem signatoryref34_Columns.calls (A0_0 : Option Addr) (c0_0 : Nat) (l0_0 : List (List Int)) (A0_1 : Option Addr) (c0_1 : Nat) (l0_1 : List Int) (r : Int) (w : World) (hr0_0 : Kd.C (Kd.slice 3 (Kd.int .i64)) w A0_0 l0_0.length l0_0) (hc0_0 : l0_0.length ≤ c0_0) (hr0_1 : Kd.C (Kd.int .i64) w A0_1 l0_1.length l0_1) (hc0_1 : l0_1.length ≤ c0_1) (h : signatoryref34_Columns.f l0_0 l0_1 = some r) :
  Calls Try.prog 35 #[.agg #[.slice A0_0 l0_0.length c0_0, .slice A0_1 l0_1.length c0_1]] w fun e w' => e = .returned (.int .i64 r) ∧ Below w.heap.size w w' := by
 have hu25 := Try.underlying25
 have HR0_0 := Aside0.mk hr0_0
 have HC0_0 := Aside0.mk hc0_0
 clear hr0_0 hc0_0
 have HR0_1 := Aside0.mk hr0_1
 have HC0_1 := Aside0.mk hc0_1
 clear hr0_1 hc0_1
 have HB := Aside0.mk (Below.refl w.heap.size w)
 have H : (if (l0_0.length : Int) = 0 then (some 1) else (if 0 < (l0_0.length : Int) then (some ((rd_L1 l0_0 0).length : Int)) else (none))) = some r := h
 clear h
 by_cases c2 : (l0_0.length : Int) = 0
 ·rw [if_pos c2] at H
  have c2b0 : ((l0_0.length : Int) == 0) = true := beq_iff_eq.mpr c2
  have c2b1 : ((l0_0.length : Int) != 0) = false := bne_eq_false_iff_eq.mpr c2
  clear c2
  obtain rfl := Option.some.inj H
  go_enter Try.func35, Try.ntmps35
  go_wp2_with (first | ((with_reducible refine gate_dst (N := 1) rfl ?_); refine box_event ?hg (N := 1) ?hd (cs := #[.slice A0_0 l0_0.length c0_0, .slice A0_1 l0_1.length c0_1]) (t := 25) ?hr ?_; (case hd => rfl); (case hg => rfl); (case hr => first | (go_simp; done) | (go_simp; rfl)); intro gb299 hg w3 hbox hb; have n0_ := Aside0.mk (below_step (by repeat (first | (with_reducible first | exact HB.out | apply below_alloc | apply pw_below_drewN | apply below_drew1) | exact HB.out)) hb); have n1_ := Aside0.mk (hbox); have n2_ := Aside0.mk ((by rw [hg]; exact (below_size (by repeat (first | (with_reducible first | exact HB.out | apply below_alloc | apply pw_below_drewN | apply below_drew1) | exact HB.out))) : w.heap.size ≤ gb299)); have n3_ := Aside0.mk ((by rw [hg]; exact (below_size (by repeat (first | (with_reducible first | exact HB.out | apply below_alloc | apply pw_below_drewN | apply below_drew1) | exact HB.out))) : w.heap.size ≤ gb299)); clear HB; have HB := n0_; have BK299 := n1_; have GW299 := n2_; have GE299 := n3_; clear n0_ n1_ n2_ n3_; clear hb hbox hg; have hcz4_0 : w3.cell? ⟨gb299, 0, none⟩ = some (.slice A0_0 l0_0.length c0_0) := (blk_cell BK299.out 0).trans rfl; have hcz4_1 : w3.cell? ⟨gb299, 1, none⟩ = some (.slice A0_1 l0_1.length c0_1) := (blk_cell BK299.out 1).trans rfl; have hfz4_0 := blk_frozen BK299.out 0; have hfz4_1 := blk_frozen BK299.out 1))
  go_ret
  exact ⟨by first | rfl | (simp [errW_none, errW_some] <;> rfl) | (simp [*, errW_none, errW_some] <;> rfl), by repeat (first | (with_reducible first | exact HB.out | apply below_alloc | apply pw_below_drewN | apply below_drew1 | refine below_set ?_ GE299.out) | exact HB.out)⟩
 ·rw [if_neg c2] at H
  have c2b0 : ((l0_0.length : Int) == 0) = false := beq_eq_false_iff_ne.mpr c2
  have c2b1 : ((l0_0.length : Int) != 0) = true := bne_iff_ne.mpr c2
  have c2b2 : ¬ (l0_0 = []) := fun h_ => c2 (by rw [h_]; rfl)
  by_cases c5 : 0 < (l0_0.length : Int)
  ·rw [if_pos c5] at H
   have c5b0 : decide (0 < (l0_0.length : Int)) = true := decide_eq_true c5
   have c5b1 : decide (0 < l0_0.length) = true := decide_eq_true (by omega)
   clear c5
   obtain rfl := Option.some.inj H
   go_enter Try.func35, Try.ntmps35
   go_wp2_with (first | ((with_reducible refine gate_dst (N := 1) rfl ?_); refine box_event ?hg (N := 1) ?hd (cs := #[.slice A0_0 l0_0.length c0_0, .slice A0_1 l0_1.length c0_1]) (t := 25) ?hr ?_; (case hd => rfl); (case hg => rfl); (case hr => first | (go_simp; done) | (go_simp; rfl)); intro gb299 hg w6 hbox hb; have n0_ := Aside0.mk (below_step (by repeat (first | (with_reducible first | exact HB.out | apply below_alloc | apply pw_below_drewN | apply below_drew1) | exact HB.out)) hb); have n1_ := Aside0.mk (hbox); have n2_ := Aside0.mk ((by rw [hg]; exact (below_size (by repeat (first | (with_reducible first | exact HB.out | apply below_alloc | apply pw_below_drewN | apply below_drew1) | exact HB.out))) : w.heap.size ≤ gb299)); have n3_ := Aside0.mk ((by rw [hg]; exact (below_size (by repeat (first | (with_reducible first | exact HB.out | apply below_alloc | apply pw_below_drewN | apply below_drew1) | exact HB.out))) : w.heap.size ≤ gb299)); clear HB; have HB := n0_; have BK299 := n1_; have GW299 := n2_; have GE299 := n3_; clear n0_ n1_ n2_ n3_; clear hb hbox hg; have hcz7_0 : w6.cell? ⟨gb299, 0, none⟩ = some (.slice A0_0 l0_0.length c0_0) := (blk_cell BK299.out 0).trans rfl; have hcz7_1 : w6.cell? ⟨gb299, 1, none⟩ = some (.slice A0_1 l0_1.length c0_1) := (blk_cell BK299.out 1).trans rfl; have hfz7_0 := blk_frozen BK299.out 0; have hfz7_1 := blk_frozen BK299.out 1; have p300 : 0 ≤ (0 : Int) := (by omega); have q300 : 0 < (l0_0.length : Int) := of_decide_eq_true (by first | (with_reducible assumption) | assumption); obtain ⟨ad300, A300_0, c300_0, e300, hx300_0, hl300_0, hi300_0⟩ := at_L1 HR0_0.out 0 p300 q300; cases e300; have qi300 : (0 < l0_0.length) = True := eq_true (by omega); (try rw [show ((0 : Int)).toNat = 0 from rfl] at hx300_0); (try rw [Addr.add_zero'] at hx300_0); replace hx300_0 := (HB.out.cell (World.block_lt_of_cell? w _ hx300_0)).trans hx300_0; have HR300_0 := Aside0.mk hi300_0; have HC300_0 := Aside0.mk hl300_0; clear hi300_0 hl300_0; replace p300 := eq_true p300; replace q300 := eq_true q300))
   go_ret
   exact ⟨by first | rfl | (simp [errW_none, errW_some] <;> rfl) | (simp [*, errW_none, errW_some] <;> rfl), by repeat (first | (with_reducible first | exact HB.out | apply below_alloc | apply pw_below_drewN | apply below_drew1 | refine below_set ?_ GE299.out) | exact HB.out)⟩
  ·rw [if_neg c5] at H
   exact absurd H (by simp)
def signatoryref34_Small.f (k : Nat) (l0_0 : List (List Int)) (l0_1 : List Int) : Option (Bool) := if (l0_0.length : Int) ≤ 16 then ((signatoryref23_Check.f k l0_0 l0_1).bind fun t407 => (if t407 = 0 then ((signatoryref34_Columns.f l0_0 l0_1).bind fun t408 => (some (decide (t408 ≤ 16)))) else (some false))) else (some false)
set_option maxHeartbeats 8000000 in
set_option maxRecDepth 100000 in
theorem signatoryref34_Small.calls (k : Nat) (A0_0 : Option Addr) (c0_0 : Nat) (l0_0 : List (List Int)) (A0_1 : Option Addr) (c0_1 : Nat) (l0_1 : List Int) (r : Bool) (w : World) (hr0_0 : Kd.C (Kd.slice 3 (Kd.int .i64)) w A0_0 l0_0.length l0_0) (hc0_0 : l0_0.length ≤ c0_0) (hr0_1 : Kd.C (Kd.int .i64) w A0_1 l0_1.length l0_1) (hc0_1 : l0_1.length ≤ c0_1) (h : signatoryref34_Small.f k l0_0 l0_1 = some r) :
  Calls Try.prog 32 #[.agg #[.slice A0_0 l0_0.length c0_0, .slice A0_1 l0_1.length c0_1]] w fun e w' => e = .returned (.bool r) ∧ Below w.heap.size w w' := by
 have hu25 := Try.underlying25
 have HR0_0 := Aside0.mk hr0_0
 have HC0_0 := Aside0.mk hc0_0
 clear hr0_0 hc0_0
 have HR0_1 := Aside0.mk hr0_1
 have HC0_1 := Aside0.mk hc0_1
 clear hr0_1 hc0_1
 have HB := Aside0.mk (Below.refl w.heap.size w)
 have H : (if (l0_0.length : Int) ≤ 16 then ((signatoryref23_Check.f k l0_0 l0_1).bind fun t407 => (if t407 = 0 then ((signatoryref34_Columns.f l0_0 l0_1).bind fun t408 => (some (decide (t408 ≤ 16)))) else (some false))) else (some false)) = some r := h
 clear h
 by_cases c2 : (l0_0.length : Int) ≤ 16
 ·rw [if_pos c2] at H
  have c2b0 : decide ((l0_0.length : Int) ≤ 16) = true := decide_eq_true c2
  have c2b1 : decide (l0_0.length ≤ 16) = true := decide_eq_true (by omega)
  clear c2
  replace H := Option.bind_eq_some_iff.mp H
  obtain ⟨t407, A30, H⟩ := H
  replace H : (if t407 = 0 then ((signatoryref34_Columns.f l0_0 l0_1).bind fun t408 => (some (decide (t408 ≤ 16)))) else (some false)) = some r := H
  have A3 := Aside0.mk A30
  clear A30
  by_cases c4 : t407 = 0
  ·rw [if_pos c4] at H
   have c4b0 : (t407 == 0) = true := beq_iff_eq.mpr c4
   have c4b1 : (t407 != 0) = false := bne_eq_false_iff_eq.mpr c4
   clear c4
   replace H := Option.bind_eq_some_iff.mp H
   obtain ⟨t408, A50, H⟩ := H
   replace H : (some (decide (t408 ≤ 16))) = some r := H
   have A5 := Aside0.mk A50
   clear A50
   obtain rfl := Option.some.inj H
   go_enter Try.func32, Try.ntmps32
   go_wp2_with (first | ((with_reducible refine gate_dst (N := 1) rfl ?_); refine box_event ?hg (N := 1) ?hd (cs := #[.slice A0_0 l0_0.length c0_0, .slice A0_1 l0_1.length c0_1]) (t := 25) ?hr ?_; (case hd => rfl); (case hg => rfl); (case hr => first | (go_simp; done) | (go_simp; rfl)); intro gb406 hg w6 hbox hb; have n0_ := Aside0.mk (below_step (by repeat (first | (with_reducible first | exact HB.out | apply below_alloc | apply pw_below_drewN | apply below_drew1) | exact HB.out)) hb); have n1_ := Aside0.mk (hbox); have n2_ := Aside0.mk ((by rw [hg]; exact (below_size (by repeat (first | (with_reducible first | exact HB.out | apply below_alloc | apply pw_below_drewN | apply below_drew1) | exact HB.out))) : w.heap.size ≤ gb406)); have n3_ := Aside0.mk ((by rw [hg]; exact (below_size (by repeat (first | (with_reducible first | exact HB.out | apply below_alloc | apply pw_below_drewN | apply below_drew1) | exact HB.out))) : w.heap.size ≤ gb406)); clear HB; have HB := n0_; have BK406 := n1_; have GW406 := n2_; have GE406 := n3_; clear n0_ n1_ n2_ n3_; clear hb hbox hg; have hcz7_0 : w6.cell? ⟨gb406, 0, none⟩ = some (.slice A0_0 l0_0.length c0_0) := (blk_cell BK406.out 0).trans rfl; have hcz7_1 : w6.cell? ⟨gb406, 1, none⟩ = some (.slice A0_1 l0_1.length c0_1) := (blk_cell BK406.out 1).trans rfl; have hfz7_0 := blk_frozen BK406.out 0; have hfz7_1 := blk_frozen BK406.out 1) | (go_at_call 58; (with_reducible refine (signatoryref23_Check.calls k _ _ l0_0 _ _ l0_1 t407 _ ?side1 ?side2 ?side3 ?side4 A3.out).mono ?_); (case side1 => repeat (first | exact (Kd.C_below HR0_0.out HB.out) | (with_reducible refine Kd.C_alloc ?_ _) | (with_reducible refine Kd.C_drewN ?_ _) | (with_reducible refine Kd.C_drew ?_))); (case side2 => exact HC0_0.out); (case side3 => repeat (first | exact (Kd.C_below HR0_1.out HB.out) | (with_reducible refine Kd.C_alloc ?_ _) | (with_reducible refine Kd.C_drewN ?_ _) | (with_reducible refine Kd.C_drew ?_))); (case side4 => exact HC0_1.out); rintro e w8 ⟨rfl, hb⟩; have n0_ := Aside0.mk (blk_below (g := gb406) (o := .cells #[.slice A0_0 l0_0.length c0_0, .slice A0_1 l0_1.length c0_1] 25 (0, 0)) (by (with_reducible repeat (first | refine blk_drewN ?_ _ | refine blk_drew ?_ | refine blk_alloc ?_ _)); exact BK406.out) hb); have n1_ := Aside0.mk (below_step (by repeat (first | (with_reducible first | exact HB.out | apply below_alloc | apply pw_below_drewN | apply below_drew1 | refine below_set ?_ GE406.out) | exact HB.out)) hb); clear BK406; clear HB; have BK406 := n0_; have HB := n1_; clear n0_ n1_; (try clear hb); (try clear hb2); (try clear hk); (try clear hi); have hcz9_0 : w8.cell? ⟨gb406, 0, none⟩ = some (.slice A0_0 l0_0.length c0_0) := (blk_cell BK406.out 0).trans rfl; have hcz9_1 : w8.cell? ⟨gb406, 1, none⟩ = some (.slice A0_1 l0_1.length c0_1) := (blk_cell BK406.out 1).trans rfl; have hfz9_0 := blk_frozen BK406.out 0; have hfz9_1 := blk_frozen BK406.out 1) | (go_at_call 35; (with_reducible refine (signatoryref34_Columns.calls _ _ l0_0 _ _ l0_1 t408 _ ?side1 ?side2 ?side3 ?side4 A5.out).mono ?_); (case side1 => repeat (first | exact (Kd.C_below HR0_0.out HB.out) | (with_reducible refine Kd.C_alloc ?_ _) | (with_reducible refine Kd.C_drewN ?_ _) | (with_reducible refine Kd.C_drew ?_))); (case side2 => exact HC0_0.out); (case side3 => repeat (first | exact (Kd.C_below HR0_1.out HB.out) | (with_reducible refine Kd.C_alloc ?_ _) | (with_reducible refine Kd.C_drewN ?_ _) | (with_reducible refine Kd.C_drew ?_))); (case side4 => exact HC0_1.out); rintro e w10 ⟨rfl, hb⟩; have n0_ := Aside0.mk (blk_below (g := gb406) (o := .cells #[.slice A0_0 l0_0.length c0_0, .slice A0_1 l0_1.length c0_1] 25 (0, 0)) (by (with_reducible repeat (first | refine blk_drewN ?_ _ | refine blk_drew ?_ | refine blk_alloc ?_ _)); exact BK406.out) hb); have n1_ := Aside0.mk (below_step (by repeat (first | (with_reducible first | exact HB.out | apply below_alloc | apply pw_below_drewN | apply below_drew1 | refine below_set ?_ GE406.out) | exact HB.out)) hb); clear BK406; clear HB; have BK406 := n0_; have HB := n1_; clear n0_ n1_; (try clear hb); (try clear hb2); (try clear hk); (try clear hi)))
   go_ret
   exact ⟨by first | rfl | (simp [errW_none, errW_some] <;> rfl) | (simp [*, errW_none, errW_some] <;> rfl), by repeat (first | (with_reducible first | exact HB.out | apply below_alloc | apply pw_below_drewN | apply below_drew1 | refine below_set ?_ GE406.out) | exact HB.out)⟩
  ·rw [if_neg c4] at H
   have c4b0 : (t407 == 0) = false := beq_eq_false_iff_ne.mpr c4
   have c4b1 : (t407 != 0) = true := bne_iff_ne.mpr c4
   obtain rfl := Option.some.inj H
   go_enter Try.func32, Try.ntmps32
   go_wp2_with (first | ((with_reducible refine gate_dst (N := 1) rfl ?_); refine box_event ?hg (N := 1) ?hd (cs := #[.slice A0_0 l0_0.length c0_0, .slice A0_1 l0_1.length c0_1]) (t := 25) ?hr ?_; (case hd => rfl); (case hg => rfl); (case hr => first | (go_simp; done) | (go_simp; rfl)); intro gb406 hg w11 hbox hb; have n0_ := Aside0.mk (below_step (by repeat (first | (with_reducible first | exact HB.out | apply below_alloc | apply pw_below_drewN | apply below_drew1) | exact HB.out)) hb); have n1_ := Aside0.mk (hbox); have n2_ := Aside0.mk ((by rw [hg]; exact (below_size (by repeat (first | (with_reducible first | exact HB.out | apply below_alloc | apply pw_below_drewN | apply below_drew1) | exact HB.out))) : w.heap.size ≤ gb406)); have n3_ := Aside0.mk ((by rw [hg]; exact (below_size (by repeat (first | (with_reducible first | exact HB.out | apply below_alloc | apply pw_below_drewN | apply below_drew1) | exact HB.out))) : w.heap.size ≤ gb406)); clear HB; have HB := n0_; have BK406 := n1_; have GW406 := n2_; have GE406 := n3_; clear n0_ n1_ n2_ n3_; clear hb hbox hg; have hcz12_0 : w11.cell? ⟨gb406, 0, none⟩ = some (.slice A0_0 l0_0.length c0_0) := (blk_cell BK406.out 0).trans rfl; have hcz12_1 : w11.cell? ⟨gb406, 1, none⟩ = some (.slice A0_1 l0_1.length c0_1) := (blk_cell BK406.out 1).trans rfl; have hfz12_0 := blk_frozen BK406.out 0; have hfz12_1 := blk_frozen BK406.out 1) | (go_at_call 58; (with_reducible refine (signatoryref23_Check.calls k _ _ l0_0 _ _ l0_1 t407 _ ?side1 ?side2 ?side3 ?side4 A3.out).mono ?_); (case side1 => repeat (first | exact (Kd.C_below HR0_0.out HB.out) | (with_reducible refine Kd.C_alloc ?_ _) | (with_reducible refine Kd.C_drewN ?_ _) | (with_reducible refine Kd.C_drew ?_))); (case side2 => exact HC0_0.out); (case side3 => repeat (first | exact (Kd.C_below HR0_1.out HB.out) | (with_reducible refine Kd.C_alloc ?_ _) | (with_reducible refine Kd.C_drewN ?_ _) | (with_reducible refine Kd.C_drew ?_))); (case side4 => exact HC0_1.out); rintro e w13 ⟨rfl, hb⟩; have n0_ := Aside0.mk (blk_below (g := gb406) (o := .cells #[.slice A0_0 l0_0.length c0_0, .slice A0_1 l0_1.length c0_1] 25 (0, 0)) (by (with_reducible repeat (first | refine blk_drewN ?_ _ | refine blk_drew ?_ | refine blk_alloc ?_ _)); exact BK406.out) hb); have n1_ := Aside0.mk (below_step (by repeat (first | (with_reducible first | exact HB.out | apply below_alloc | apply pw_below_drewN | apply below_drew1 | refine below_set ?_ GE406.out) | exact HB.out)) hb); clear BK406; clear HB; have BK406 := n0_; have HB := n1_; clear n0_ n1_; (try clear hb); (try clear hb2); (try clear hk); (try clear hi)))
   go_ret
   exact ⟨by first | rfl | (simp [errW_none, errW_some] <;> rfl) | (simp [*, errW_none, errW_some] <;> rfl), by repeat (first | (with_reducible first | exact HB.out | apply below_alloc | apply pw_below_drewN | apply below_drew1 | refine below_set ?_ GE406.out) | exact HB.out)⟩
 ·rw [if_neg c2] at H
  have c2b0 : decide ((l0_0.length : Int) ≤ 16) = false := decide_eq_false c2
  have c2b1 : decide (l0_0.length ≤ 16) = false := decide_eq_false (by omega)
  clear c2
  obtain rfl := Option.some.inj H
  go_enter Try.func32, Try.ntmps32
  go_wp2_with (first | ((with_reducible refine gate_dst (N := 1) rfl ?_); refine box_event ?hg (N := 1) ?hd (cs := #[.slice A0_0 l0_0.length c0_0, .slice A0_1 l0_1.length c0_1]) (t := 25) ?hr ?_; (case hd => rfl); (case hg => rfl); (case hr => first | (go_simp; done) | (go_simp; rfl)); intro gb406 hg w14 hbox hb; have n0_ := Aside0.mk (below_step (by repeat (first | (with_reducible first | exact HB.out | apply below_alloc | apply pw_below_drewN | apply below_drew1) | exact HB.out)) hb); have n1_ := Aside0.mk (hbox); have n2_ := Aside0.mk ((by rw [hg]; exact (below_size (by repeat (first | (with_reducible first | exact HB.out | apply below_alloc | apply pw_below_drewN | apply below_drew1) | exact HB.out))) : w.heap.size ≤ gb406)); have n3_ := Aside0.mk ((by rw [hg]; exact (below_size (by repeat (first | (with_reducible first | exact HB.out | apply below_alloc | apply pw_below_drewN | apply below_drew1) | exact HB.out))) : w.heap.size ≤ gb406)); clear HB; have HB := n0_; have BK406 := n1_; have GW406 := n2_; have GE406 := n3_; clear n0_ n1_ n2_ n3_; clear hb hbox hg; have hcz15_0 : w14.cell? ⟨gb406, 0, none⟩ = some (.slice A0_0 l0_0.length c0_0) := (blk_cell BK406.out 0).trans rfl; have hcz15_1 : w14.cell? ⟨gb406, 1, none⟩ = some (.slice A0_1 l0_1.length c0_1) := (blk_cell BK406.out 1).trans rfl; have hfz15_0 := blk_frozen BK406.out 0; have hfz15_1 := blk_frozen BK406.out 1))
  go_ret
  exact ⟨by first | rfl | (simp [errW_none, errW_some] <;> rfl) | (simp [*, errW_none, errW_some] <;> rfl), by repeat (first | (with_reducible first | exact HB.out | apply below_alloc | apply pw_below_drewN | apply below_drew1 | refine below_set ?_ GE406.out) | exact HB.out)⟩
def signatoryref34_Same.l0 : Nat → List (S38) → List (S38) → Int → Option (Bool)
 | 0, _, _, _ => none
 | k + 1, x0, x1, x5 => if x5 < (x0.length : Int) then (if 0 ≤ x5 then (if x5 < (x1.length : Int) then (if (!(((rd_T38 x0 x5).f0) == ((rd_T38 x1 x5).f0)) || (!(((rd_T38 x0 x5).f1) == ((rd_T38 x1 x5).f1)))) = true then (some false) else (signatoryref34_Same.l0 k x0 x1 (wrap64 (x5 + 1)))) else (none)) else (none)) else (some true)
def signatoryref34_Same.f (k : Nat) (l0 : List (S38)) (l1 : List (S38)) : Option (Bool) := if (l0.length : Int) = (l1.length : Int) then (signatoryref34_Same.l0 k l0 l1 0) else (some false)
set_option maxHeartbeats 8000000 in
set_option maxRecDepth 100000 in
theorem signatoryref34_Same.calls (k : Nat) (A0 : Option Addr) (c0 : Nat) (l0 : List (S38)) (A1 : Option Addr) (c1 : Nat) (l1 : List (S38)) (r : Bool) (w : World) (hr0 : Kd.C k38 w A0 l0.length l0) (hc0 : l0.length ≤ c0) (hr1 : Kd.C k38 w A1 l1.length l1) (hc1 : l1.length ≤ c1) (h : signatoryref34_Same.f k l0 l1 = some r) :
  Calls Try.prog 26 #[.slice A0 l0.length c0, .slice A1 l1.length c1] w fun e w' => e = .returned (.bool r) ∧ Drawn0 w w' := by
 have hu38 := Try.underlying38
 have HR0 := Aside0.mk hr0
 have HC0 := Aside0.mk hc0
 clear hr0 hc0
 have HR1 := Aside0.mk hr1
 have HC1 := Aside0.mk hc1
 clear hr1 hc1
 have H : (if (l0.length : Int) = (l1.length : Int) then (signatoryref34_Same.l0 k l0 l1 0) else (some false)) = some r := h
 clear h
 by_cases c3 : (l0.length : Int) = (l1.length : Int)
 ·rw [if_pos c3] at H
  have c3b0 : ((l0.length : Int) == (l1.length : Int)) = true := beq_iff_eq.mpr c3
  have c3b1 : ((l0.length : Int) != (l1.length : Int)) = false := bne_eq_false_iff_eq.mpr c3
  have c3b2 : (l0.length == l1.length) = true := by first | simpa using c3 | (simp at c3 ⊢; omega)
  clear c3
  have H' := Aside0.mk H
  clear H
  go_enter Try.func26, Try.ntmps26
  go_wp2
  repeat (go_quiet (fail); try go_wp2)
  go_loopg [5] k (fun kq v5 w' => ∃ (x5_1 : Int), v5 = .int .i64 x5_1 ∧ Aside0 (signatoryref34_Same.l0 kq l0 l1 x5_1 = some r) ∧ Aside0 (kq ≤ k) ∧ Drawn0 w w')
  case atStart => exact ⟨(0), (by first | rfl | (simp; done) | (simp [*]; done)), H', ⟨Nat.le_refl _⟩, by repeat (first | exact Drawn0.refl _ | apply Drawn0.step)⟩
  case round =>
   clear H'
   try clear c1
   try clear c2
   try clear p2
   try clear c3
   try clear c3b0
   try clear c3b1
   try clear c3b2
   obtain ⟨x5_1, rfl, HA, HK1, ⟨m1, rfl⟩⟩ := hrel
   cases gk with
   | zero => exact absurd HA.out (by simp [signatoryref34_Same.l0])
   | succ k1 =>
    have H := HA.out
    clear HA
    simp only [signatoryref34_Same.l0] at H
    by_cases c4 : x5_1 < (l0.length : Int)
    ·rw [if_pos c4] at H
     have c4b0 : decide (x5_1 < (l0.length : Int)) = true := decide_eq_true c4
     clear c4
     by_cases c5 : 0 ≤ x5_1
     ·rw [if_pos c5] at H
      have c5b0 : decide (0 ≤ x5_1) = true := decide_eq_true c5
      clear c5
      by_cases c6 : x5_1 < (l1.length : Int)
      ·rw [if_pos c6] at H
       have c6b0 : decide (x5_1 < (l1.length : Int)) = true := decide_eq_true c6
       clear c6
       by_cases c7 : (!(((rd_T38 l0 x5_1).f0) == ((rd_T38 l1 x5_1).f0)) || (!(((rd_T38 l0 x5_1).f1) == ((rd_T38 l1 x5_1).f1)))) = true
       ·rw [if_pos c7] at H
        have c7b0 : (!(((rd_T38 l0 x5_1).f0) == ((rd_T38 l1 x5_1).f0)) || (!(((rd_T38 l0 x5_1).f1) == ((rd_T38 l1 x5_1).f1)))) = true := c7
        clear c7
        obtain rfl := Option.some.inj H
        have p399 : 0 ≤ (x5_1 : Int) := of_decide_eq_true (by first | (with_reducible assumption) | assumption)
        have q399 : x5_1 < (l0.length : Int) := of_decide_eq_true (by first | (with_reducible assumption) | assumption)
        obtain ⟨ad399, e399, hx399_0, hx399_1⟩ := at_T38 HR0.out x5_1 p399 q399
        cases e399
        replace p399 := eq_true p399
        replace q399 := eq_true q399
        have p400 : 0 ≤ (x5_1 : Int) := of_decide_eq_true (by first | (with_reducible assumption) | assumption)
        have q400 : x5_1 < (l1.length : Int) := of_decide_eq_true (by first | (with_reducible assumption) | assumption)
        obtain ⟨ad400, e400, hx400_0, hx400_1⟩ := at_T38 HR1.out x5_1 p400 q400
        cases e400
        replace p400 := eq_true p400
        replace q400 := eq_true q400
        go_wp2
        repeat (go_quiet (fail); try go_wp2)
        go_ret
        exact ⟨by first | rfl | (simp; done) | (simp [*]; done), by repeat (first | exact Drawn0.refl _ | apply Drawn0.step)⟩
       ·rw [if_neg c7] at H
        have c7b0 : (!(((rd_T38 l0 x5_1).f0) == ((rd_T38 l1 x5_1).f0)) || (!(((rd_T38 l0 x5_1).f1) == ((rd_T38 l1 x5_1).f1)))) = false := by simpa using c7
        clear c7
        have H' := Aside0.mk H
        clear H
        have p399 : 0 ≤ (x5_1 : Int) := of_decide_eq_true (by first | (with_reducible assumption) | assumption)
        have q399 : x5_1 < (l0.length : Int) := of_decide_eq_true (by first | (with_reducible assumption) | assumption)
        obtain ⟨ad399, e399, hx399_0, hx399_1⟩ := at_T38 HR0.out x5_1 p399 q399
        cases e399
        replace p399 := eq_true p399
        replace q399 := eq_true q399
        have p400 : 0 ≤ (x5_1 : Int) := of_decide_eq_true (by first | (with_reducible assumption) | assumption)
        have q400 : x5_1 < (l1.length : Int) := of_decide_eq_true (by first | (with_reducible assumption) | assumption)
        obtain ⟨ad400, e400, hx400_0, hx400_1⟩ := at_T38 HR1.out x5_1 p400 q400
        cases e400
        replace p400 := eq_true p400
        replace q400 := eq_true q400
        go_wp2
        repeat (go_quiet (fail); try go_wp2)
        go_roundg k1
        case measure => have := HK1.out; omega
        case rel => exact ⟨(wrap64 (x5_1 + 1)), (by first | rfl | (simp; done) | (simp [*]; done)), H', ⟨by have := HK1.out; omega⟩, by repeat (first | exact Drawn0.refl _ | apply Drawn0.step)⟩
      ·rw [if_neg c6] at H
       exact absurd H (by simp)
     ·rw [if_neg c5] at H
      exact absurd H (by simp)
    ·rw [if_neg c4] at H
     have c4b0 : decide (x5_1 < (l0.length : Int)) = false := decide_eq_false c4
     clear c4
     obtain rfl := Option.some.inj H
     go_wp2
     repeat (go_quiet (fail); try go_wp2)
     go_ret
     exact ⟨by first | rfl | (simp; done) | (simp [*]; done), by repeat (first | exact Drawn0.refl _ | apply Drawn0.step)⟩
 ·rw [if_neg c3] at H
  have c3b0 : ((l0.length : Int) == (l1.length : Int)) = false := beq_eq_false_iff_ne.mpr c3
  have c3b1 : ((l0.length : Int) != (l1.length : Int)) = true := bne_iff_ne.mpr c3
  have c3b2 : (l0.length == l1.length) = false := by first | simpa using c3 | (simp at c3 ⊢; omega)
  obtain rfl := Option.some.inj H
  go_enter Try.func26, Try.ntmps26
  go_wp2
  repeat (go_quiet (fail); try go_wp2)
  go_ret
  exact ⟨by first | rfl | (simp; done) | (simp [*]; done), by repeat (first | exact Drawn0.refl _ | apply Drawn0.step)⟩
def signatorylaw34_one.f  : Option ((List (List Int)) × List Int) := some ((([(([1] : List Int))] : List (List Int))), (([4] : List Int)))
set_option maxHeartbeats 8000000 in
set_option maxRecDepth 100000 in
theorem signatorylaw34_one.calls  (r1 : List (List Int)) (r2 : List Int) (w : World) (h : signatorylaw34_one.f  = some (r1, r2)) :
  Calls Try.prog 81 #[] w fun e w' => ∃ v0_ v1_ : Value, e = .returned (.agg #[v0_, v1_]) ∧ Kd.N (Kd.slice 3 (Kd.int .i64)) 23 w' w.heap.size (fun k_ => (w.heap.size ≤ k_) ∧ some k_ ≠ (v1_ : Value).ownBlock) v0_ r1 ∧ Kd.R (Kd.int .i64) 3 w' w.heap.size (fun k_ => (w.heap.size ≤ k_)) v1_ r2 ∧ Below w.heap.size w w' := by
 have hu25 := Try.underlying25
 have HB := Aside0.mk (Below.refl w.heap.size w)
 have H : (some ((([(([1] : List Int))] : List (List Int))), (([4] : List Int)))) = some (r1, r2) := h
 clear h
 obtain ⟨y421, hy421⟩ : ∃ y_ : List Int, y_ = (([1] : List Int)) := ⟨_, rfl⟩
 replace H : (some ((([y421] : List (List Int))), (([4] : List Int)))) = some (r1, r2) := by first | (rw [hy421]; with_reducible exact H) | (have H2_ := (Option.bind_some _ _).symm.trans H; rw [hy421]; with_reducible exact H2_) | (have H2_ := (Option.bind_some _ _).symm.trans H; with_reducible exact H2_) | with_reducible exact H | (rw [hy421]; exact H) | exact H
 have Ny421 := Aside0.mk hy421
 clear hy421
 obtain ⟨y424, hy424⟩ : ∃ y_ : List (List Int), y_ = (([y421] : List (List Int))) := ⟨_, rfl⟩
 replace H : (some (y424, (([4] : List Int)))) = some (r1, r2) := by first | (rw [hy424]; with_reducible exact H) | (have H2_ := (Option.bind_some _ _).symm.trans H; rw [hy424]; with_reducible exact H2_) | (have H2_ := (Option.bind_some _ _).symm.trans H; with_reducible exact H2_) | with_reducible exact H | (rw [hy424]; exact H) | exact H
 have Ny424 := Aside0.mk hy424
 clear hy424
 obtain ⟨y427, hy427⟩ : ∃ y_ : List Int, y_ = (([4] : List Int)) := ⟨_, rfl⟩
 replace H : (some (y424, y427)) = some (r1, r2) := by first | (rw [hy427]; with_reducible exact H) | (have H2_ := (Option.bind_some _ _).symm.trans H; rw [hy427]; with_reducible exact H2_) | (have H2_ := (Option.bind_some _ _).symm.trans H; with_reducible exact H2_) | with_reducible exact H | (rw [hy427]; exact H) | exact H
 have Ny427 := Aside0.mk hy427
 clear hy427
 simp only [Option.some.injEq, Prod.mk.injEq] at H
 obtain ⟨rfl, rfl⟩ := H
 go_enter Try.func81, Try.ntmps81
 go_wp2_with (first | ((with_reducible refine gate_dst (N := 0) rfl ?_); refine box_event ?hg (N := 0) ?hd (cs := #[.slice none 0 0, .slice none 0 0]) (t := 25) ?hr ?_; (case hd => rfl); (case hg => rfl); (case hr => first | (go_simp; done) | (go_simp; rfl)); intro gb420 hg w1 hbox hb; have n0_ := Aside0.mk (below_step (by repeat (first | (with_reducible first | exact HB.out | apply below_alloc | apply pw_below_drewN | apply below_drew1) | exact HB.out)) hb); have n1_ := Aside0.mk (hbox); have n2_ := Aside0.mk ((by rw [hg]; exact (below_size (by repeat (first | (with_reducible first | exact HB.out | apply below_alloc | apply pw_below_drewN | apply below_drew1) | exact HB.out))) : w.heap.size ≤ gb420)); have n3_ := Aside0.mk ((by rw [hg]; exact (below_size (by repeat (first | (with_reducible first | exact HB.out | apply below_alloc | apply pw_below_drewN | apply below_drew1) | exact HB.out))) : w.heap.size ≤ gb420)); clear HB; have HB := n0_; have BK420 := n1_; have GW420 := n2_; have GE420 := n3_; clear n0_ n1_ n2_ n3_; clear hb hbox hg) | ((with_reducible refine gate_dst (N := 1) rfl ?_); refine Kd.R_lit (Kd.int .i64) _ 3 ?hg (N := 1) ?hd (xs := ([1] : List Int)) (inner := [.int .i64 1]) (ok := fun _ => True) (okp := fun _ => True) ?hr ?hp (fun _ hk => hk) trivial (Below.refl _ _) (Nat.le_refl _) (by simp) ?_; (case hd => rfl); (case hg => rfl); (case hr => first | (go_simp; done) | (go_simp; rfl)); (case hp => exact (Reps.one (show Kd.M (Kd.int .i64) _ _ _ 1 [.int .i64 1] from rfl) (Reps.none _ _))); intro v422 w2 ho3 hb hg_ hnew_; clear hg_ hnew_; (first | rw [← Ny421.out] at ho3 | (simp only [Int.reduceToNat] at ho3; rw [← Ny421.out] at ho3)); have n0_ := Aside0.mk (Kd.R_lower (Kd.R_newM (M := fun k_ => (w.heap.size ≤ k_)) ho3 (below_size (by repeat (first | (with_reducible first | exact HB.out | apply below_alloc | apply pw_below_drewN | apply below_drew1 | refine below_set ?_ GE420.out) | exact HB.out))) (fun k_ h_ => h_)) (below_size (by repeat (first | (with_reducible first | exact HB.out | apply below_alloc | apply pw_below_drewN | apply below_drew1 | refine below_set ?_ GE420.out) | exact HB.out)))); have n1_ := Aside0.mk (blk_below (g := gb420) (o := .cells #[.slice none 0 0, .slice none 0 0] 25 (0, 0)) (by (with_reducible repeat (first | refine blk_drewN ?_ _ | refine blk_drew ?_ | refine blk_alloc ?_ _)); exact BK420.out) hb); have n2_ := Aside0.mk (below_step (by repeat (first | (with_reducible first | exact HB.out | apply below_alloc | apply pw_below_drewN | apply below_drew1 | refine below_set ?_ GE420.out) | exact HB.out)) hb); clear BK420; clear HB; have HO423 := n0_; have BK420 := n1_; have HB := n2_; clear n0_ n1_ n2_; clear hb ho3; obtain ⟨Ao4, co4, eo4⟩ := Kd.R_slice HO423.out; subst eo4) | ((with_reducible refine gate_dst (N := 2) rfl ?_); refine Kd.N_lit (Kd.slice 3 (Kd.int .i64)) _ 23 ?hg (N' := 2) ?hd (xs := ([y421] : List (List Int))) (inner := [.slice Ao4 y421.length co4]) (ok := (fun k_ => (w.heap.size ≤ k_) ∧ k_ ≠ gb420)) (okp := (fun k_ => (w.heap.size ≤ k_) ∧ k_ ≠ gb420)) ?hr ?hp (fun _ hk => hk) ((show ∀ k_, w2.heap.size ≤ k_ → (fun k_ => (w.heap.size ≤ k_) ∧ k_ ≠ gb420) k_ from fun k_ hk => ⟨(Nat.le_trans (below_size (by repeat (first | (with_reducible first | exact HB.out | apply below_alloc | apply pw_below_drewN | apply below_drew1 | refine below_set ?_ GE420.out) | exact HB.out))) hk), Kd.freshB (g := gb420) (o := .cells #[.slice none 0 0, .slice none 0 0] 25 (0, 0)) (by (with_reducible repeat (first | refine blk_drewN ?_ _ | refine blk_drew ?_ | refine blk_alloc ?_ _)); exact BK420.out) k_ hk⟩) _ (Nat.le_refl _)) (Below.refl _ _) (Nat.le_refl _) (by simp) ?_; (case hd => rfl); (case hg => rfl); (case hr => first | (go_simp; done) | (go_simp; rfl)); (case hp => exact (Reps.one (show Kd.FK (Kd.slice 3 (Kd.int .i64)) _ _ y421 [.slice Ao4 y421.length co4] from (Kd.FK_slice_mk (Kd.R_reads' (Kd.R_mono (ok' := (fun k_ => (w.heap.size ≤ k_) ∧ k_ ≠ gb420)) (Kd.R_types (HO423.out) BK420.out (by decide)) (fun k_ hk => ⟨hk.1.1, hk.2⟩))).2.1 (Kd.R_F (Kd.R_mono (ok' := (fun k_ => (w.heap.size ≤ k_) ∧ k_ ≠ gb420)) (Kd.R_types (HO423.out) BK420.out (by decide)) (fun k_ hk => ⟨hk.1.1, hk.2⟩))))) (Reps.none _ _))); intro v425 w5 ho6 hb hg_ hnew_; clear hg_ hnew_; (first | rw [← Ny424.out] at ho6 | (simp only [Int.reduceToNat] at ho6; rw [← Ny424.out] at ho6)); have n0_ := Aside0.mk (Kd.N_lower ho6 (below_size (by repeat (first | (with_reducible first | exact HB.out | apply below_alloc | apply pw_below_drewN | apply below_drew1 | refine below_set ?_ GE420.out) | exact HB.out)))); have n1_ := Aside0.mk (blk_below (g := gb420) (o := .cells #[.slice none 0 0, .slice none 0 0] 25 (0, 0)) (by (with_reducible repeat (first | refine blk_drewN ?_ _ | refine blk_drew ?_ | refine blk_alloc ?_ _)); exact BK420.out) hb); have n2_ := Aside0.mk (below_step (by repeat (first | (with_reducible first | exact HB.out | apply below_alloc | apply pw_below_drewN | apply below_drew1 | refine below_set ?_ GE420.out) | exact HB.out)) hb); clear BK420; clear HB; clear HO423; have HO426 := n0_; have BK420 := n1_; have HB := n2_; clear n0_ n1_ n2_; clear hb ho6) | ((with_reducible refine gate_dst (N := 3) rfl ?_); refine Kd.R_lit (Kd.int .i64) _ 3 ?hg (N := 3) ?hd (xs := ([4] : List Int)) (inner := [.int .i64 4]) (ok := fun _ => True) (okp := fun _ => True) ?hr ?hp (fun _ hk => hk) trivial (Below.refl _ _) (Nat.le_refl _) (by simp) ?_; (case hd => rfl); (case hg => rfl); (case hr => first | (go_simp; done) | (go_simp; rfl)); (case hp => exact (Reps.one (show Kd.M (Kd.int .i64) _ _ _ 4 [.int .i64 4] from rfl) (Reps.none _ _))); intro v428 w7 ho8 hb hg_ hnew_; clear hg_ hnew_; (first | rw [← Ny427.out] at ho8 | (simp only [Int.reduceToNat] at ho8; rw [← Ny427.out] at ho8)); have n0_ := Aside0.mk (Kd.N_elder' (by (with_reducible repeat (first | apply Kd.N_alloc | apply Kd.N_drewN | apply Kd.N_drew)); exact HO426.out) (Kd.R_base ho8) hb); have n1_ := Aside0.mk (Kd.R_lower (Kd.R_newM (M := fun k_ => (w.heap.size ≤ k_)) ho8 (below_size (by repeat (first | (with_reducible first | exact HB.out | apply below_alloc | apply pw_below_drewN | apply below_drew1 | refine below_set ?_ GE420.out) | exact HB.out))) (fun k_ h_ => h_)) (below_size (by repeat (first | (with_reducible first | exact HB.out | apply below_alloc | apply pw_below_drewN | apply below_drew1 | refine below_set ?_ GE420.out) | exact HB.out)))); have n2_ := Aside0.mk (blk_below (g := gb420) (o := .cells #[.slice none 0 0, .slice none 0 0] 25 (0, 0)) (by (with_reducible repeat (first | refine blk_drewN ?_ _ | refine blk_drew ?_ | refine blk_alloc ?_ _)); exact BK420.out) hb); have n3_ := Aside0.mk (below_step (by repeat (first | (with_reducible first | exact HB.out | apply below_alloc | apply pw_below_drewN | apply below_drew1 | refine below_set ?_ GE420.out) | exact HB.out)) hb); clear HO426; clear BK420; clear HB; have HO426 := n0_; have HO429 := n1_; have BK420 := n2_; have HB := n3_; clear n0_ n1_ n2_ n3_; clear hb ho8; obtain ⟨Ao9, co9, eo9⟩ := Kd.R_slice HO429.out; subst eo9; obtain ⟨Ao10, co10, eo10⟩ := Kd.N_slice HO426.out; subst eo10; have hcz11_0 : w7.cell? ⟨gb420, 0, none⟩ = some (.slice none 0 0) := (blk_cell BK420.out 0).trans rfl; have hcz11_1 : w7.cell? ⟨gb420, 1, none⟩ = some (.slice none 0 0) := (blk_cell BK420.out 1).trans rfl; have hfz11_0 := blk_frozen BK420.out 0; have hfz11_1 := blk_frozen BK420.out 1))
 refine bodyPost_ret (results_cell_row rfl _ _ gb420 25 #[.slice Ao10 y424.length co10, .slice Ao9 y427.length co9] (0, 0) _ rfl (by (with_reducible repeat (first | refine blk_drewN ?_ _ | refine blk_drew ?_ | refine blk_alloc ?_ _)); refine blk_put (cs := #[.slice Ao10 y424.length co10, .slice none 0 0]) ?_ 1 _ rfl; (with_reducible repeat (first | refine blk_drewN ?_ _ | refine blk_drew ?_ | refine blk_alloc ?_ _)); refine blk_put (cs := #[.slice none 0 0, .slice none 0 0]) ?_ 0 _ rfl; (with_reducible repeat (first | refine blk_drewN ?_ _ | refine blk_drew ?_ | refine blk_alloc ?_ _)); exact BK420.out) Try.underlying25 rfl (by kernel_rfl)) rfl ?_
 exact ⟨_, _, by first | rfl | (simp [errW_none, errW_some] <;> rfl) | (simp [*, errW_none, errW_some] <;> rfl), by (with_reducible repeat (first | apply Kd.N_alloc | apply Kd.N_drewN | apply Kd.N_drew)); exact Kd.N_mono (Kd.N_far (p := ⟨gb420, 1, none⟩) (Kd.N_far (p := ⟨gb420, 0, none⟩) (Kd.N_mono HO426.out (fun k_ hk => (⟨hk, hk.1.2⟩ : _ ∧ k_ ≠ gb420))) (fun _ hk => hk.2) (.slice Ao10 y424.length co10)) (fun _ hk => hk.2) (.slice Ao9 y427.length co9)) (fun _ hk => ⟨hk.1.1.1, hk.1.2⟩), by (with_reducible repeat (first | apply Kd.R_alloc | apply Kd.R_drewN | apply Kd.R_drew)); exact Kd.R_mono (Kd.R_far (p := ⟨gb420, 1, none⟩) (Kd.R_far (p := ⟨gb420, 0, none⟩) (Kd.R_types HO429.out BK420.out (by decide)) (fun _ hk => hk.2) (.slice Ao10 y424.length co10)) (fun _ hk => hk.2) (.slice Ao9 y427.length co9)) (fun _ hk => hk.1.1), by repeat (first | (with_reducible first | exact HB.out | apply below_alloc | apply pw_below_drewN | apply below_drew1 | refine below_set ?_ GE420.out) | exact HB.out)⟩
def signatorylaw34_random.l0 : Nat → List Int → List Int → Int → Int → Option (List Int)
 | 0, _, _, _, _ => none
 | k + 1, x1, x4, x9, x10 => if x10 < x9 then (if x10 < (x1.length : Int) then (if 0 ≤ x10 then (if x4.length < 17592186044416 then (signatorylaw34_random.l0 k x1 (x4 ++ [Int.tmod (wrap64 (rd x1 x10)) 1073741789]) x9 (wrap64 (x10 + 1))) else (none)) else (none)) else (if x4.length < 17592186044416 then (signatorylaw34_random.l0 k x1 (x4 ++ [0]) x9 (wrap64 (x10 + 1))) else (none))) else (some x4)
def signatorylaw34_random.f (k : Nat) (l0_0 : List (List Int)) (l0_1 : List Int) (l1 : List Int) : Option (List Int) := (signatoryref34_Columns.f l0_0 l0_1).bind fun t431 => (signatorylaw34_random.l0 k l1 ([] : List Int) (wrap64 (t431 - 1)) 0)
set_option maxHeartbeats 8000000 in
set_option maxRecDepth 100000 in
theorem signatorylaw34_random.calls (k : Nat) (A0_0 : Option Addr) (c0_0 : Nat) (l0_0 : List (List Int)) (A0_1 : Option Addr) (c0_1 : Nat) (l0_1 : List Int) (A1 : Option Addr) (c1 : Nat) (l1 : List Int) (r : List Int) (w : World) (hr0_0 : Kd.C (Kd.slice 3 (Kd.int .i64)) w A0_0 l0_0.length l0_0) (hc0_0 : l0_0.length ≤ c0_0) (hr0_1 : Kd.C (Kd.int .i64) w A0_1 l0_1.length l0_1) (hc0_1 : l0_1.length ≤ c0_1) (hr1 : Kd.C (Kd.int .u32) w A1 l1.length l1) (hc1 : l1.length ≤ c1) (h : signatorylaw34_random.f k l0_0 l0_1 l1 = some r) :
  Calls Try.prog 33 #[.agg #[.slice A0_0 l0_0.length c0_0, .slice A0_1 l0_1.length c0_1], .slice A1 l1.length c1] w fun e w' => ∃ v0_ : Value, e = .returned (v0_) ∧ Kd.R (Kd.int .i64) 3 w' w.heap.size (fun _ => True) v0_ r ∧ Below w.heap.size w w' := by
 have hu25 := Try.underlying25
 have HR0_0 := Aside0.mk hr0_0
 have HC0_0 := Aside0.mk hc0_0
 clear hr0_0 hc0_0
 have HR0_1 := Aside0.mk hr0_1
 have HC0_1 := Aside0.mk hc0_1
 clear hr0_1 hc0_1
 have HR1 := Aside0.mk hr1
 have HC1 := Aside0.mk hc1
 clear hr1 hc1
 have HB := Aside0.mk (Below.refl w.heap.size w)
 have H : ((signatoryref34_Columns.f l0_0 l0_1).bind fun t431 => (signatorylaw34_random.l0 k l1 ([] : List Int) (wrap64 (t431 - 1)) 0)) = some r := h
 clear h
 replace H := Option.bind_eq_some_iff.mp H
 obtain ⟨t431, A30, H⟩ := H
 replace H : (signatorylaw34_random.l0 k l1 ([] : List Int) (wrap64 (t431 - 1)) 0) = some r := H
 have A3 := Aside0.mk A30
 clear A30
 have H' := Aside0.mk H
 clear H
 go_enter Try.func33, Try.ntmps33
 go_wp2_with (first | ((with_reducible refine gate_dst (N := 2) rfl ?_); refine box_event ?hg (N := 2) ?hd (cs := #[.slice A0_0 l0_0.length c0_0, .slice A0_1 l0_1.length c0_1]) (t := 25) ?hr ?_; (case hd => rfl); (case hg => rfl); (case hr => first | (go_simp; done) | (go_simp; rfl)); intro gb430 hg w4 hbox hb; have n0_ := Aside0.mk (below_step (by repeat (first | (with_reducible first | exact HB.out | apply below_alloc | apply pw_below_drewN | apply below_drew1) | exact HB.out)) hb); have n1_ := Aside0.mk (hbox); have n2_ := Aside0.mk ((by rw [hg]; exact (below_size (by repeat (first | (with_reducible first | exact HB.out | apply below_alloc | apply pw_below_drewN | apply below_drew1) | exact HB.out))) : w.heap.size ≤ gb430)); have n3_ := Aside0.mk ((by rw [hg]; exact (below_size (by repeat (first | (with_reducible first | exact HB.out | apply below_alloc | apply pw_below_drewN | apply below_drew1) | exact HB.out))) : w.heap.size ≤ gb430)); clear HB; have HB := n0_; have BK430 := n1_; have GW430 := n2_; have GE430 := n3_; clear n0_ n1_ n2_ n3_; clear hb hbox hg; have hcz5_0 : w4.cell? ⟨gb430, 0, none⟩ = some (.slice A0_0 l0_0.length c0_0) := (blk_cell BK430.out 0).trans rfl; have hcz5_1 : w4.cell? ⟨gb430, 1, none⟩ = some (.slice A0_1 l0_1.length c0_1) := (blk_cell BK430.out 1).trans rfl; have hfz5_0 := blk_frozen BK430.out 0; have hfz5_1 := blk_frozen BK430.out 1) | ((with_reducible refine gate_callee (f := 35) rfl ?_); refine goesL_ (some 8) rfl rfl Try.func35 (by kernel_rfl) rfl #[.agg #[.slice A0_0 l0_0.length c0_0, .slice A0_1 l0_1.length c0_1]] rfl (by (try simp only [List.map_toArray, List.map_cons, List.map_nil]); first | done | rfl | (simp only [List.length_drop, List.length_take]; rfl)) ?_; (with_reducible refine (signatoryref34_Columns.calls _ _ l0_0 _ _ l0_1 t431 _ ?side1 ?side2 ?side3 ?side4 A3.out).mono ?_); (case side1 => repeat (first | exact (Kd.C_below HR0_0.out HB.out) | (with_reducible refine Kd.C_alloc ?_ _) | (with_reducible refine Kd.C_drewN ?_ _) | (with_reducible refine Kd.C_drew ?_))); (case side2 => exact HC0_0.out); (case side3 => repeat (first | exact (Kd.C_below HR0_1.out HB.out) | (with_reducible refine Kd.C_alloc ?_ _) | (with_reducible refine Kd.C_drewN ?_ _) | (with_reducible refine Kd.C_drew ?_))); (case side4 => exact HC0_1.out); rintro e w6 ⟨rfl, hb⟩; refine ⟨_, rfl, ?_⟩; have n0_ := Aside0.mk (blk_below (g := gb430) (o := .cells #[.slice A0_0 l0_0.length c0_0, .slice A0_1 l0_1.length c0_1] 25 (0, 0)) (by (with_reducible repeat (first | refine blk_drewN ?_ _ | refine blk_drew ?_ | refine blk_alloc ?_ _)); exact BK430.out) hb); have n1_ := Aside0.mk (below_step (by repeat (first | (with_reducible first | exact HB.out | apply below_alloc | apply pw_below_drewN | apply below_drew1 | refine below_set ?_ GE430.out) | exact HB.out)) hb); clear BK430; clear HB; have BK430 := n0_; have HB := n1_; clear n0_ n1_; (try clear hb); (try clear hb2); (try clear hk); (try clear hi)))
 go_loopg [4, 10] k (fun kq v4 v10 w' => ∃ (x4_1 : List Int) (x10_1 : Int), v10 = .int .i64 x10_1 ∧ Aside0 (signatorylaw34_random.l0 kq l1 x4_1 (wrap64 (t431 - 1)) x10_1 = some r) ∧ Aside0 (kq ≤ k) ∧ Aside0 (Kd.R (Kd.int .i64) 3 w' w.heap.size (fun _ => True) v4 x4_1) ∧ Aside0 (w'.heap[gb430]? = some (.cells #[(.slice A0_0 l0_0.length c0_0), (.slice A0_1 l0_1.length c0_1)] 25 (0, 0))) ∧ Aside0 (Below w.heap.size w w'))
 case atStart => exact ⟨(([] : List Int)), (0), (by first | rfl | (simp; done) | (simp [*]; done)), H', ⟨Nat.le_refl _⟩, ⟨by first | exact Kd.R_nil _ _ _ _ _ | exact Kd.N_nil _ _ _ _ _ | exact Kd.V_nil _ _ _ _ _ | exact Kd.Q_nil _ _ _ _ _ | exact Kd.S_nil _ _ _ _ _⟩, ⟨by (with_reducible repeat (first | refine blk_drewN ?_ _ | refine blk_drew ?_ | refine blk_alloc ?_ _)); exact BK430.out⟩, ⟨by repeat (first | (with_reducible first | exact HB.out | apply below_alloc | apply pw_below_drewN | apply below_drew1 | refine below_set ?_ GE430.out) | exact HB.out)⟩⟩
 case round =>
  clear H'
  try clear c1
  try clear p2
  try clear c3
  try clear p6
  try clear hcz5_0
  try clear hcz5_1
  try clear hfz5_0
  try clear hfz5_1
  obtain ⟨x4_1, x10_1, rfl, HA, HK1, HO_4, BK430, HB⟩ := hrel
  cases gk with
  | zero => exact absurd HA.out (by simp [signatorylaw34_random.l0])
  | succ k1 =>
   have H := HA.out
   clear HA
   simp only [signatorylaw34_random.l0] at H
   by_cases c7 : x10_1 < (wrap64 (t431 - 1))
   ·rw [if_pos c7] at H
    have c7b0 : decide (x10_1 < (wrap64 (t431 - 1))) = true := decide_eq_true c7
    clear c7
    by_cases c8 : x10_1 < (l1.length : Int)
    ·rw [if_pos c8] at H
     have c8b0 : decide (x10_1 < (l1.length : Int)) = true := decide_eq_true c8
     clear c8
     by_cases c9 : 0 ≤ x10_1
     ·rw [if_pos c9] at H
      have c9b0 : decide (0 ≤ x10_1) = true := decide_eq_true c9
      clear c9
      by_cases c10 : x4_1.length < 17592186044416
      ·rw [if_pos c10] at H
       have LMc10 := Aside0.mk c10
       clear c10
       obtain ⟨y433, hy433⟩ : ∃ y_ : List Int, y_ = (x4_1 ++ [Int.tmod (wrap64 (rd l1 x10_1)) 1073741789]) := ⟨_, rfl⟩
       replace H : (signatorylaw34_random.l0 k1 l1 y433 (wrap64 (t431 - 1)) (wrap64 (x10_1 + 1))) = some r := by first | (rw [hy433]; with_reducible exact H) | (have H2_ := (Option.bind_some _ _).symm.trans H; rw [hy433]; with_reducible exact H2_) | (have H2_ := (Option.bind_some _ _).symm.trans H; with_reducible exact H2_) | with_reducible exact H | (rw [hy433]; exact H) | exact H
       have Ny433 := Aside0.mk hy433
       clear hy433
       have H' := Aside0.mk H
       clear H
       have p432 : 0 ≤ (x10_1 : Int) := of_decide_eq_true (by first | (with_reducible assumption) | assumption)
       have q432 : x10_1 < (l1.length : Int) := of_decide_eq_true (by first | (with_reducible assumption) | assumption)
       obtain ⟨ad432, e432, hx432_0⟩ := Kd.at_int HR1.out x10_1 p432 q432
       cases e432
       replace hx432_0 := (HB.out.cell (World.block_lt_of_cell? w _ hx432_0)).trans hx432_0
       replace p432 := eq_true p432
       replace q432 := eq_true q432
       go_wp2_with (first | ((with_reducible refine gate_builtin (b := .append) (xs := #[.tmp 23, .tmp 25]) rfl ?_); at_builtin; refine Kd.R_append (Kd.int .i64) (w0 := w) w.heap.size rfl (.tmp 23) (.tmp 25) 23 3 (.int .i64 0) 8 rfl Try.underlying23 info3 rfl (by decide) (by omega) u4 x4_1 (Int.tmod (wrap64 (rd l1 x10_1)) 1073741789) [.int .i64 (Int.tmod (wrap64 (rd l1 x10_1)) 1073741789)] (fun _ => True) (fun _ => False) rfl rfl ?aP (fun _ hk => hk.elim) ?aF ?aO ?aB ?aS ?aL ?_; (case aP => exact rfl); (case aB => exact (by repeat (first | (with_reducible first | exact HB.out | apply below_alloc | apply pw_below_drewN | apply below_drew1 | refine below_set ?_ GE430.out) | exact HB.out))); (case aF => exact (fun _ _ => trivial)); (case aO => exact (by (with_reducible repeat (first | apply Kd.R_alloc | apply Kd.R_drewN | apply Kd.R_drew)); exact HO_4.out)); (case aS => exact (below_size (by repeat (first | (with_reducible first | exact HB.out | apply below_alloc | apply pw_below_drewN | apply below_drew1 | refine below_set ?_ GE430.out) | exact HB.out)))); (case aL => have := LMc10.out; omega); intro v434 w11 ho hb hg hat; rw [← Ny433.out] at ho; have n0_ := Aside0.mk (blk_grown (g := gb430) (o := .cells #[.slice A0_0 l0_0.length c0_0, .slice A0_1 l0_1.length c0_1] 25 (0, 0)) (by (with_reducible repeat (first | refine blk_drewN ?_ _ | refine blk_drew ?_ | refine blk_alloc ?_ _)); exact BK430.out) hg (Kd.R_ne HO_4.out BK430.out (by decide))); have n1_ := Aside0.mk (hb); have n2_ := Aside0.mk (ho); clear BK430; clear HB; clear HO_4; have BK430 := n0_; have HB := n1_; have HO435 := n2_; clear n0_ n1_ n2_; clear ho hb hg hat))
       go_roundg k1
       case measure => have := HK1.out; omega
       case rel => exact ⟨(y433), (wrap64 (x10_1 + 1)), (by first | rfl | (simp; done) | (simp [*]; done)), H', ⟨by have := HK1.out; omega⟩, ⟨by (with_reducible repeat (first | apply Kd.R_alloc | apply Kd.R_drewN | apply Kd.R_drew)); exact HO435.out⟩, ⟨by (with_reducible repeat (first | refine blk_drewN ?_ _ | refine blk_drew ?_ | refine blk_alloc ?_ _)); exact BK430.out⟩, ⟨by repeat (first | (with_reducible first | exact HB.out | apply below_alloc | apply pw_below_drewN | apply below_drew1 | refine below_set ?_ GE430.out) | exact HB.out)⟩⟩
      ·rw [if_neg c10] at H
       exact absurd H (by simp)
     ·rw [if_neg c9] at H
      exact absurd H (by simp)
    ·rw [if_neg c8] at H
     have c8b0 : decide (x10_1 < (l1.length : Int)) = false := decide_eq_false c8
     clear c8
     by_cases c12 : x4_1.length < 17592186044416
     ·rw [if_pos c12] at H
      have LMc12 := Aside0.mk c12
      clear c12
      obtain ⟨y436, hy436⟩ : ∃ y_ : List Int, y_ = (x4_1 ++ [0]) := ⟨_, rfl⟩
      replace H : (signatorylaw34_random.l0 k1 l1 y436 (wrap64 (t431 - 1)) (wrap64 (x10_1 + 1))) = some r := by first | (rw [hy436]; with_reducible exact H) | (have H2_ := (Option.bind_some _ _).symm.trans H; rw [hy436]; with_reducible exact H2_) | (have H2_ := (Option.bind_some _ _).symm.trans H; with_reducible exact H2_) | with_reducible exact H | (rw [hy436]; exact H) | exact H
      have Ny436 := Aside0.mk hy436
      clear hy436
      have H' := Aside0.mk H
      clear H
      go_wp2_with (first | ((with_reducible refine gate_builtin (b := .append) (xs := #[.tmp 23, .tmp 25]) rfl ?_); at_builtin; refine Kd.R_append (Kd.int .i64) (w0 := w) w.heap.size rfl (.tmp 23) (.tmp 25) 23 3 (.int .i64 0) 8 rfl Try.underlying23 info3 rfl (by decide) (by omega) u4 x4_1 0 [.int .i64 0] (fun _ => True) (fun _ => False) rfl rfl ?aP (fun _ hk => hk.elim) ?aF ?aO ?aB ?aS ?aL ?_; (case aP => exact rfl); (case aB => exact (by repeat (first | (with_reducible first | exact HB.out | apply below_alloc | apply pw_below_drewN | apply below_drew1 | refine below_set ?_ GE430.out) | exact HB.out))); (case aF => exact (fun _ _ => trivial)); (case aO => exact (by (with_reducible repeat (first | apply Kd.R_alloc | apply Kd.R_drewN | apply Kd.R_drew)); exact HO_4.out)); (case aS => exact (below_size (by repeat (first | (with_reducible first | exact HB.out | apply below_alloc | apply pw_below_drewN | apply below_drew1 | refine below_set ?_ GE430.out) | exact HB.out)))); (case aL => have := LMc12.out; omega); intro v437 w13 ho hb hg hat; rw [← Ny436.out] at ho; have n0_ := Aside0.mk (blk_grown (g := gb430) (o := .cells #[.slice A0_0 l0_0.length c0_0, .slice A0_1 l0_1.length c0_1] 25 (0, 0)) (by (with_reducible repeat (first | refine blk_drewN ?_ _ | refine blk_drew ?_ | refine blk_alloc ?_ _)); exact BK430.out) hg (Kd.R_ne HO_4.out BK430.out (by decide))); have n1_ := Aside0.mk (hb); have n2_ := Aside0.mk (ho); clear BK430; clear HB; clear HO_4; have BK430 := n0_; have HB := n1_; have HO438 := n2_; clear n0_ n1_ n2_; clear ho hb hg hat))
      go_roundg k1
      case measure => have := HK1.out; omega
      case rel => exact ⟨(y436), (wrap64 (x10_1 + 1)), (by first | rfl | (simp; done) | (simp [*]; done)), H', ⟨by have := HK1.out; omega⟩, ⟨by (with_reducible repeat (first | apply Kd.R_alloc | apply Kd.R_drewN | apply Kd.R_drew)); exact HO438.out⟩, ⟨by (with_reducible repeat (first | refine blk_drewN ?_ _ | refine blk_drew ?_ | refine blk_alloc ?_ _)); exact BK430.out⟩, ⟨by repeat (first | (with_reducible first | exact HB.out | apply below_alloc | apply pw_below_drewN | apply below_drew1 | refine below_set ?_ GE430.out) | exact HB.out)⟩⟩
     ·rw [if_neg c12] at H
      exact absurd H (by simp)
   ·rw [if_neg c7] at H
    have c7b0 : decide (x10_1 < (wrap64 (t431 - 1))) = false := decide_eq_false c7
    clear c7
    obtain rfl := Option.some.inj H
    go_wp2
    go_ret
    exact ⟨_, by first | rfl | (simp [errW_none, errW_some] <;> rfl) | (simp [*, errW_none, errW_some] <;> rfl), by (with_reducible repeat (first | apply Kd.R_alloc | apply Kd.R_drewN | apply Kd.R_drew)); exact HO_4.out, by repeat (first | (with_reducible first | exact HB.out | apply below_alloc | apply pw_below_drewN | apply below_drew1 | refine below_set ?_ GE430.out) | exact HB.out)⟩
end Go.Proofs.Ytdbamhckgaoibaa.P
