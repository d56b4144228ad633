/- A part of the proof of DealingEnough: slices.Collect over an iterator that yields known slices.; dealing.sum, dealing.times.; dealing.rows: the rows of shares, in turn.; linear.reduce brings the table into its form.; What linear's two great functions call: need, check, examine, caught; a table made by turned.; linear.Combine.; dealing.Recover.; What is dealt, and the group's elements, in plain words. -/
import Derived.Test.YtdbamhckgaoibaaZDE3
import Derived.Defers
import Derived.Recover
namespace Go.Proofs.Ytdbamhckgaoibaa.P
open Go.RowKit Go.Proofs.YtdbamhckgaoibaaW.PrintWords Go.Proofs.YtdbamhckgaoibaaW.PrintLast Go.Proofs.YtdbamhckgaoibaaW.PrintMore
attribute [local go_sem] Oper.semAt_some
set_option linter.unusedVariables false
set_option linter.unusedSimpArgs false
def IterC (g : Nat) (lb : Array Value) (w : World) (yv : List Value) : Prop :=
  ∀ (l : Nat) (W1 : World) (J : Nat → World → Prop), (∀ k W, J k W → Below w.heap.size w W) → (∀ k W W', J k W → Below W.heap.size W W' → J k W') →
    (∀ k W v, yv[k]? = some v → J k W → YieldAt Fence.wide 7 Try.prog l #[v] W fun e W' => e = .returned (.bool true) ∧ J (k + 1) W') → J 0 W1 →
    CallsIn Fence.wide 8 Try.prog g (#[.func (.yield l) #[] #[]] ++ lb) W1 fun e W' => (∃ v, e = .returned v) ∧ J yv.length W'
def AI (w : World) (Bq : Nat) (yv : List Value) (k : Nat) (W : World) : Prop :=
  ∃ v, Bx W Bq v ∧ W.ownsRow (Bq + 1) 23 1 v k (yv.take k) ∧ Below Bq w W
theorem AI.own (w : World) (Bq : Nat) (yv : List Value) {B : Nat} (hB : Bq ≤ B) (hw : Bq ≤ w.heap.size) : OwnFrom B (AI w Bq yv) := by
  rintro k W W' row ⟨v, h1, h2, h3⟩ hg hr
  exact ⟨v, h1.kept hg (fun r e => (hr r e).2), own_nocell h2 hg (fun r e => (hr r e).2), h3.grown hg (Nat.le_trans hw h3.size) (fun k e => Nat.le_trans hB (hr k e).1)⟩
theorem keeps_own {W W' : World} {base n size : Nat} {e : TypeId} {v : Value} {xs : List Value} (hO : W.ownsRow base e size v n xs) (hg : W.grownBy W' v.ownBlock) : KeepsOthers W W' :=
  ⟨hg.size, fun k o hk hf => (hg.block k (Array.getElem?_eq_some_iff.1 hk).1 (fun e1 => by
    obtain ⟨cells, hcl⟩ := own_typed hO k e1.symm
    rw [hcl] at hk
    cases hk
    simp [Obj.isCells] at hf)).trans hk⟩
theorem AI.below {w : World} {Bq : Nat} {yv : List Value} {k : Nat} {W W' : World} (h : AI w Bq yv k W) (hb : Below W.heap.size W W') (hw : Bq ≤ w.heap.size) : AI w Bq yv k W' := by
  obtain ⟨v, h1, h2, h3⟩ := h
  exact ⟨v, h1.below hb, own_below h2 hb, h3.trans (hb.mono (Nat.le_trans hw h3.size))⟩
set_option maxRecDepth 100000 in
set_option maxHeartbeats 4000000 in
theorem appendSeq_c {g : Nat} {lb : Array Value} {w : World} {yv : List Value} (eg : ∀ args w, (callFunc g args).run Try.prog w = .ok (.enter g args) w) (hit : IterC g lb w yv) (h1 : ∀ v ∈ yv, ∃ A n c, v = Value.slice A n c) (hl : yv.length ≤ 1000000) :
    Calls Try.prog 170 #[.slice none 0 0, .func (.func g) #[] lb] w fun e w' => ∃ v, e = .returned v ∧ w'.ownsRow (w.heap.size + 1) 23 1 v yv.length yv ∧ Below w.heap.size w w' := by
  have HIT := Aside0.mk hit
  have H1 := Aside0.mk h1
  clear hit h1
  refine (callsIn_wide (n := 9)).1 ?_
  refine callsIn_of_wp_marks Try.func170 rfl trivial ?_ rfl
  simp only [Try.ntmps170, List.size_toArray, List.length_cons, List.length_nil, Nat.reduceAdd, Nat.reduceSub, Array.replicate_succ, Array.replicate_zero, List.push_toArray, List.append_toArray, List.nil_append, List.cons_append]
  gi_wp2
  obtain ⟨W0, hW0⟩ : ∃ W0, w.alloc (.cells #[.slice none 0 0] 22) = W0 := ⟨_, rfl⟩
  rw [hW0]
  have hb0 : Below w.heap.size w W0 := by rw [← hW0]; exact (Below.refl _ _).alloc (Nat.le_refl _) _
  have hx0 : Bx W0 w.heap.size (.slice none 0 0) := by rw [← hW0]; exact Bx.new _ _ _
  have hz0 : W0.heap.size = w.heap.size + 1 := by rw [← hW0]; simp
  have HB0 := Aside0.mk hb0
  have HZ0 := Aside0.mk hz0
  have h0 : AI w w.heap.size yv 0 W0 := ⟨_, hx0, World.ownsRow_nil _ _ _ _, hb0⟩
  have H0 := Aside0.mk h0
  clear hW0 hb0 hx0 hz0 h0
  refine range_all (by omega) rfl eg (AI w w.heap.size yv) 0 (fun k => k = yv.length) (fun k vs k' => k < yv.length ∧ vs = #[yv.getD k undef] ∧ k' = k + 1) ?_ H0.out ?_ ?_ ?_ ?_
  · exact AI.own _ _ _ (by rw [HZ0.out]; omega) (Nat.le_refl _)
  · rintro k vs k' ⟨_, rfl, _⟩; rfl
  · intro l W1 J hs hJI hJ hY hj0
    refine (HIT.out l W1 J (fun k W h => (hJI k W h).choose_spec.2.2) (fun k W W' h hb => hJ k k W W' h ((keeps_below hb).from _) ((hJI k W h).below hb (Nat.le_refl _))) (fun k W v hv h => ?_) hj0).mono (fun e W' h => ⟨h.1, yv.length, rfl, h.2⟩)
    have hlt := (List.getElem?_eq_some_iff.1 hv).1
    have hv' : v = yv.getD k undef := by rw [List.getD_eq_getElem?_getD, hv]; rfl
    rw [hv']
    exact hY k _ _ W ⟨hlt, rfl, rfl⟩ h
  · rintro l k vs k' W ⟨hk, rfl, rfl⟩ hI
    have HI := Aside0.mk hI
    clear hI
    obtain ⟨y, hy⟩ : ∃ y, y = yv.getD k undef := ⟨_, rfl⟩
    rw [← hy]
    obtain ⟨yA, yn, yc, hy1⟩ := H1.out y (by rw [hy, List.getD_eq_getElem?_getD, List.getElem?_eq_getElem hk]; exact List.getElem_mem hk)
    have hyt : yv.take (k + 1) = yv.take k ++ [y] := by rw [List.take_succ_eq_append_getElem hk, hy, List.getD_eq_getElem?_getD, List.getElem?_eq_getElem hk]; rfl
    have HYT := Aside0.mk hyt
    subst hy1
    clear hy hyt
    gi_wp2
    refine ⟨KeepsFrom.refl _ _, HI.out, ?_⟩
    clear HI
    rintro W2 ⟨v, hx, ho, hb⟩
    have e2 := hx.1
    have f2 := hx.2
    have hlt := hx.lt
    have HX := Aside0.mk hx
    have HB := Aside0.mk hb
    have HOA := Aside0.mk (own_below ho ((Below.refl _ W2).alloc (Nat.le_refl _) (.cells #[.slice yA yn yc] 23)))
    have HO := Aside0.mk ho
    obtain ⟨i0, hi0, hz0, hz1, hz2⟩ := info_parts (P := Try.prog) (e := 23) (z := .slice none 0 0) (size := 1) (bytes := 24) (by kernel_rfl)
    obtain ⟨vA, vc, rfl⟩ := own_len ho
    clear hx hb ho
    gi_wp2_with (gi_at_builtin; refine wpListIn_append_own _ rfl _ _ 22 rfl (w.heap.size + 1) 23 i0 (.slice none 0 0) 1 24 (by kernel_rfl) hi0 hz0 hz1 hz2 rfl (by decide) _ _ _ rfl HOA.out ⟨W2.heap.size, 0, none⟩ 1 1 [.slice yA yn yc] rfl ?qc1 ?qc2 ?qc3 ?qc4 ?qc5 ?qc6 ?_)
    case qc1 => rfl
    case qc2 =>
      intro j u hj
      have hj1 := (List.getElem?_eq_some_iff.1 hj).1
      obtain rfl : j = 0 := by simpa using hj1
      simp only [List.getElem?_cons_zero, Option.some.injEq] at hj
      subst hj
      exact (Bx.new W2 (.slice yA yn yc) 23).1
    case qc3 => intro u hu; simp only [List.mem_singleton] at hu; subst hu; rfl
    case qc4 => unfold maxLen; omega
    case qc5 => omega
    case qc6 => simp; omega
    intro v' w9 hown hgrow hnil
    clear hnil
    obtain ⟨vA', vc', rfl⟩ := own_len hown
    have hch : Chg (fun b => (Value.slice vA k vc).ownBlock = some b) (W2.alloc (.cells #[.slice yA yn yc] 23)) w9 := (Chg.refl _ _).then_grown hgrow (fun b e => .inl e)
    have hx9 := (HX.out.alloc (.cells #[.slice yA yn yc] 23)).chg hch (fun e => by have := own_base HO.out _ e; omega)
    have e9 := hx9.1
    have f9 := hx9.2
    have HX9 := Aside0.mk hx9
    have HW9 := Aside0.mk hown
    have hk9 : KeepsOthers W2 w9 := (keeps_below ((Below.refl _ W2).alloc (Nat.le_refl _) (.cells #[.slice yA yn yc] 23))).trans (keeps_own HOA.out hgrow)
    have hb9 : Below w.heap.size w w9 := by
      refine (HB.out.alloc HB.out.size (.cells #[.slice yA yn yc] 23)).grown hgrow (by simp; omega) (fun b e => by have := own_base HO.out _ e; omega)
    have HK9 := Aside0.mk hk9
    have HB9 := Aside0.mk hb9
    clear hown hgrow e2 f2 hi0 hz0 hz1 hz2 i0 hch hx9 hk9 hb9
    gi_wp2
    refine ⟨(HK9.out.trans (KeepsOthers.setCell _ _ _)).from _, _, HX9.out.set _, ?_, HB9.out.setCell (Nat.le_refl _) _⟩
    rw [HYT.out]
    exact own_far HW9.out (Nat.lt_succ_self _) _
  · rintro D k W hD rfl ⟨v, hx, ho, hb⟩ hK
    have e2 := hx.1
    have HO := Aside0.mk ho
    have HB := Aside0.mk hb
    have hDw : w.heap.size ≤ D := by have := HZ0.out; omega
    clear hx ho hb
    gi_wp2
    refine ⟨by simp, .inl ⟨_, _, rfl, run_takeDeferred hK, ?_⟩⟩
    refine ⟨v, by simp [results, Try.results170, go_sem], v, rfl, ?_, HB.out.grown (grownBy_putObj' W D (.deferred none)) HB.out.size (fun b e => by cases e; exact hDw)⟩
    have := own_nocell HO.out (grownBy_putObj' W D (.deferred none)) (fun r e => by cases e; exact ⟨_, hK, rfl⟩)
    rw [List.take_length] at this
    exact this
theorem collect_c {g : Nat} {lb : Array Value} {w : World} {yv : List Value} (eg : ∀ args w, (callFunc g args).run Try.prog w = .ok (.enter g args) w) (hit : IterC g lb w yv) (h1 : ∀ v ∈ yv, ∃ A n c, v = Value.slice A n c) (hl : yv.length ≤ 1000000) :
    Calls Try.prog 93 #[.func (.func g) #[] lb] w fun e w' => ∃ v, e = .returned v ∧ w'.ownsRow (w.heap.size + 1) 23 1 v yv.length yv ∧ Below w.heap.size w w' := by
  have HC := Aside0.mk (appendSeq_c eg hit h1 hl)
  clear eg hit h1
  go_enter Try.func93, Try.ntmps93
  go_wp2_with (go_at_call 170; refine HC.out.mono ?_; rintro e w' ⟨v, rfl, h1, h2⟩; have H1 := Aside0.mk h1; have H2 := Aside0.mk h2; clear h1 h2)
  go_ret
  exact ⟨_, rfl, H1.out, H2.out⟩
theorem C_of_own {W : World} {base : Nat} {v : Value} {yv : List Value} {rows : List (List Int)} (ho : W.ownsRow base 23 1 v yv.length yv) (hl : yv.length = rows.length) (hb : rows.length ≤ 1000000) (hr : ∀ i, i < rows.length → ∃ A c, yv[i]? = some (.slice A (rows.getD i []).length c) ∧ (rows.getD i []).length ≤ c ∧ Kd.C (Kd.int .i64) W A (rows.getD i []).length (rows.getD i [])) :
    ∃ A c, v = .slice A rows.length c ∧ rows.length ≤ c ∧ Kd.C (Kd.slice 3 (Kd.int .i64)) W A rows.length rows := by
  rcases ho.2 with ⟨rfl, h0⟩ | ⟨g, cap, cur, rfl, hg, hh, hc1, hc2, hc3, hc4⟩
  · exact ⟨none, 0, by rw [← hl, h0], by omega, rfl, by omega, fun h => by omega⟩
  · rw [hl] at hc1
    refine ⟨some ⟨g, 0, none⟩, cap, by rw [hl], hc1, rfl, by omega, fun h => ⟨⟨g, 0, none⟩, rfl, fun j p hj => ?_⟩⟩
    have hjl := (List.getElem?_eq_some_iff.1 hj).1
    obtain ⟨A, c, h1, h2, h3⟩ := hr j hjl
    have hp : rows.getD j [] = p := by rw [List.getD_eq_getElem?_getD, hj]; rfl
    rw [hp] at h1 h2 h3
    refine ⟨[.slice A p.length c], rfl, ⟨A, c, rfl, h2, h3⟩, fun i u hu => ?_⟩
    have hi1 := (List.getElem?_eq_some_iff.1 hu).1
    obtain rfl : i = 0 := by simpa using hi1
    simp only [List.getElem?_cons_zero, Option.some.injEq] at hu
    subst hu
    have := ho.cells (g := g) rfl j _ h1
    show W.cell? (Addr.add ⟨g, 0, none⟩ (j * 1 + 0)) = _
    rw [Nat.mul_one, Nat.add_zero]
    exact this
end Go.Proofs.Ytdbamhckgaoibaa.P
namespace Go.Proofs.Ytdbamhckgaoibaa.P
open Go.RowKit Go.Proofs.YtdbamhckgaoibaaW.PrintWords Go.Proofs.YtdbamhckgaoibaaW.PrintLast Go.Proofs.YtdbamhckgaoibaaW.PrintMore
set_option linter.unusedVariables false
set_option linter.unusedSimpArgs false
def sumQ (f : Nat → Int) : Nat → Int
  | 0 => 0
  | k + 1 => (sumQ f k + f k) % 1073741789
theorem wrap_next {j : Nat} (h : j < 9223372036854775807) : wrap64 ((j : Int) + 1) = ((j + 1 : Nat) : Int) := by unfold wrap64; omega
set_option maxHeartbeats 1000000 in
theorem sumInt_c {g : Nat} (eg : ∀ args w, (callFunc g args).run Try.prog w = .ok (.enter g args) w) (p : Addr) (f : Nat → Int) (A0 : Option Addr) (c0 : Nat) (l : List Int) (w : World) (hr : Kd.C (Kd.int .i64) w A0 l.length l)
    (hg : ∀ (i : Nat) (W : World), i < l.length → Below w.heap.size w W → Calls Try.prog g #[.int .i64 (i : Int), .int .i64 (rd l (i : Int)), .pointer (some p)] W fun e w' => e = .returned (.int .i64 (f i)) ∧ Drawn0 W w') :
    Calls Try.prog 164 #[.slice A0 l.length c0, .func (.func g) #[] #[.pointer (some p)]] w fun e w' => e = .returned (.int .i64 (sumQ f l.length)) ∧ Below w.heap.size w w' := by
  have HG := Aside0.mk hg
  have HR := Aside0.mk hr
  have hlen : l.length ≤ 9223372036854775807 := hr.2.1
  clear hr hg
  go_enter Try.func164, Try.ntmps164
  go_wp2
  go_loopg [4, 9] l.length (fun gk v4 v9 w' => ∃ j : Nat, j ≤ l.length ∧ gk = l.length - j ∧ v9 = .int .i64 (j : Int) ∧ v4 = .int .i64 (sumQ f j) ∧ Aside0 (Below w.heap.size w w'))
  case atStart => exact ⟨0, Nat.zero_le _, rfl, rfl, rfl, ⟨by first | exact Below.refl _ _ | exact pw_below_drewN (Below.refl _ _) _⟩⟩
  case round =>
    obtain ⟨j, hj, rfl, rfl, rfl, HB⟩ := hrel
    by_cases hlt : j < l.length
    · have c1 : decide ((j : Int) < (l.length : Int)) = true := decide_eq_true (by omega)
      have c2 : decide (j < l.length) = true := decide_eq_true hlt
      have c4 : (0 : Int) ≤ (j : Int) := by omega
      obtain ⟨ad, e, hx⟩ := Kd.at_int HR.out (j : Int) (by omega) (by omega)
      cases e
      rw [Int.toNat_natCast] at hx
      have hcall := HG.out j wr hlt HB.out
      replace hx := (HB.out.cell (World.block_lt_of_cell? w _ hx)).trans hx
      generalize rd l (j : Int) = x at hx hcall
      have hS : sumQ f (j + 1) = (sumQ f j + f j) % 1073741789 := rfl
      generalize f j = fj at hcall hS
      have HS := Aside0.mk hS
      have HC := Aside0.mk hcall
      have HL := Aside0.mk hlen
      clear hS hcall HG hlen
      go_wp2_with (go_at_call 36; refine (field_Add_m.calls _ _ _ _ rfl).mono ?_; rintro e w2 ⟨rfl, hb2⟩; have HB2 := Aside0.mk hb2; clear hb2)
      refine HC.out.mono ?_
      rintro e w1 ⟨rfl, ⟨nd, rfl⟩⟩
      go_wp2_with (go_at_call 36; refine (field_Add_m.calls _ _ _ _ rfl).mono ?_; rintro e w2 ⟨rfl, hb2⟩; have HB2 := Aside0.mk (below_then (pw_below_drewN HB.out nd) (by exact HB.out.size) hb2); clear hb2)
      go_roundg (l.length - (j + 1))
      case measure => omega
      case rel =>
        have := HL.out
        exact ⟨j + 1, by omega, rfl, by rw [wrap_next (by omega)], by rw [HS.out], HB2⟩
    · obtain rfl : j = l.length := by omega
      have c1 : decide ((l.length : Int) < (l.length : Int)) = false := decide_eq_false (by omega)
      go_wp2
      go_ret
      exact ⟨rfl, HB.out⟩
set_option maxHeartbeats 1000000 in
theorem times1_c (B : Nat) (A1 : Option Addr) (c1 : Nat) (b : List Int) (i : Nat) (x : Int) (W : World) (hB : W.cell? ⟨B, 0, none⟩ = some (.slice A1 b.length c1)) (hr : Kd.C (Kd.int .i64) W A1 b.length b) (hi : i < b.length) :
    Calls Try.prog 165 #[.int .i64 (i : Int), .int .i64 x, .pointer (some ⟨B, 0, none⟩)] W fun e w' => e = .returned (.int .i64 (x * b.getD i 0 % 1073741789)) ∧ Drawn0 W w' := by
  obtain ⟨ad, e, hx⟩ := Kd.at_int hr (i : Int) (by omega) (by omega)
  cases e
  rw [Int.toNat_natCast] at hx
  have e : rd b (i : Int) = b.getD i 0 := by unfold rd; rw [Int.toNat_natCast]
  rw [e] at hx
  generalize b.getD i 0 = y at hx
  have c2 : decide (i < b.length) = true := decide_eq_true hi
  have c3 : (i : Int) < (b.length : Int) := by omega
  have c4 : (0 : Int) ≤ (i : Int) := by omega
  clear e hr
  go_enter Try.func165, Try.ntmps165
  go_wp2_with (go_at_call 65; refine (mul_c _ _ _).mono ?_; rintro e w' ⟨rfl, ⟨nd, rfl⟩⟩)
  go_ret
  exact ⟨rfl, by repeat (first | exact Drawn0.refl _ | apply Drawn0.step)⟩
theorem sumQ_congr {f g : Nat → Int} : ∀ {k : Nat}, (∀ i, i < k → f i = g i) → sumQ f k = sumQ g k
  | 0, _ => rfl
  | k + 1, h => by unfold sumQ; rw [sumQ_congr (fun i hi => h i (by omega)), h k (by omega)]
theorem dot_take : ∀ (a b : List Int) (k : Nat), k < a.length → k < b.length → Sig.dot (a.take (k + 1)) b = Sig.dot (a.take k) b + a.getD k 0 * b.getD k 0
  | [], _, _, h, _ => by simp at h
  | _ :: _, [], _, _, h => by simp at h
  | x :: a, y :: b, 0, _, _ => by simp [Sig.dot]
  | x :: a, y :: b, k + 1, h1, h2 => by
    have := dot_take a b k (by simpa using h1) (by simpa using h2)
    rw [List.take_succ_cons, List.take_succ_cons, Sig.dot, Sig.dot, this]
    simp
    omega
theorem sumQ_dot (a b : List Int) (h : a.length ≤ b.length) : ∀ k, k ≤ a.length → sumQ (fun i => a.getD i 0 * b.getD i 0 % 1073741789) k = Sig.dot (a.take k) b % 1073741789
  | 0, _ => by rw [List.take_zero]; rfl
  | k + 1, hk => by
    unfold sumQ
    rw [sumQ_dot a b h k (by omega), dot_take a b k (by omega) (by omega)]
    omega
theorem times_c (A0 : Option Addr) (c0 : Nat) (a : List Int) (A1 : Option Addr) (c1 : Nat) (b : List Int) (w : World) (hr0 : Kd.C (Kd.int .i64) w A0 a.length a) (hr1 : Kd.C (Kd.int .i64) w A1 b.length b) (hl : a.length ≤ b.length) :
    Calls Try.prog 86 #[.slice A0 a.length c0, .slice A1 b.length c1] w fun e w' => e = .returned (.int .i64 (Sig.dot a b % 1073741789)) ∧ Below w.heap.size w w' := by
  have hs := sumQ_dot a b hl a.length (Nat.le_refl _)
  rw [List.take_length] at hs
  rw [← hs]
  have hb : Below w.heap.size w (w.alloc (.cells #[.slice A1 b.length c1] 23)) := (Below.refl _ _).alloc (Nat.le_refl _) _
  have hbx := Bx.new w (.slice A1 b.length c1) 23
  have HC := Aside0.mk (sumInt_c (g := 165) (fun args w => enters_ Try.func165 (by kernel_rfl) rfl args w) ⟨w.heap.size, 0, none⟩ (fun i => a.getD i 0 * b.getD i 0 % 1073741789) A0 c0 a (w.alloc (.cells #[.slice A1 b.length c1] 23)) (Kd.C_below hr0 hb) (fun i W hi hW => by
    have hrd : rd a (i : Int) = a.getD i 0 := by unfold rd; rw [Int.toNat_natCast]
    rw [hrd]
    exact times1_c w.heap.size A1 c1 b i (a.getD i 0) W (hbx.below hW).1 (Kd.C_below (Kd.C_below hr1 hb) hW) (by omega)))
  have HB := Aside0.mk hb
  clear hr0 hr1 hs hbx hb
  generalize sumQ (fun i => a.getD i 0 * b.getD i 0 % 1073741789) a.length = s at HC ⊢
  have hmf : ∀ (fn : Fn) (first cap : Array Value) (w : World), (Instr.makeFunc fn first cap).run Try.prog w = .ok (.func fn first cap) w := fun _ _ _ _ => rfl
  go_enter Try.func86, Try.ntmps86
  go_wp2_with (go_at_call 164; refine HC.out.mono ?_; rintro e w' ⟨rfl, hb2⟩; have HB2 := Aside0.mk (below_then HB.out (by simp) hb2); clear hb2)
  go_ret
  exact ⟨rfl, HB2.out⟩
def dealing_times.f (l0 l1 : List Int) : Option Int := if l0.length ≤ l1.length then some (Sig.dot l0 l1 % 1073741789) else none
theorem dealing_times.calls (A0 : Option Addr) (c0 : Nat) (l0 : List Int) (A1 : Option Addr) (c1 : Nat) (l1 : List Int) (r : Int) (w : World) (hr0 : Kd.C (Kd.int .i64) w A0 l0.length l0) (hc0 : l0.length ≤ c0) (hr1 : Kd.C (Kd.int .i64) w A1 l1.length l1) (hc1 : l1.length ≤ c1) (h : dealing_times.f l0 l1 = some r) :
    Calls Try.prog 86 #[.slice A0 l0.length c0, .slice A1 l1.length c1] w fun e w' => e = .returned (.int .i64 r) ∧ Below w.heap.size w w' := by
  unfold dealing_times.f at h
  split at h
  · cases h; exact times_c A0 c0 l0 A1 c1 l1 w hr0 hr1 (by assumption)
  · cases h
end Go.Proofs.Ytdbamhckgaoibaa.P
namespace Go.Proofs.Ytdbamhckgaoibaa.P
open Go.RowKit Go.Proofs.YtdbamhckgaoibaaW.PrintWords Go.Proofs.YtdbamhckgaoibaaW.PrintLast Go.Proofs.YtdbamhckgaoibaaW.PrintMore
attribute [local go_sem] Oper.semAt_some
set_option linter.unusedVariables false
set_option linter.unusedSimpArgs false
theorem wrap_nextB {j : Nat} (h : j < 9223372036854775807) : wrap64 ((j : Int) + 1) = ((j + 1 : Nat) : Int) := by unfold wrap64; omega
set_option maxRecDepth 100000 in
set_option maxHeartbeats 4000000 in
theorem rows1_it (w : World) (bs bp : Nat) (As : Option Addr) (cs : Nat) (ls : List S38) (Ap : Option Addr) (adr : Addr) (cp : Nat) (rows : List (List Int))
    (h1 : w.cell? ⟨bs, 0, none⟩ = some (.slice As ls.length cs)) (h2 : w.cell? ⟨bp, 0, none⟩ = some (.slice Ap rows.length cp)) (hadr : 0 < ls.length → Ap = some adr)
    (hs : Kd.C k38 w As ls.length ls) (hr : Kd.C (Kd.slice 3 (Kd.int .i64)) w Ap rows.length rows) (hin : ∀ s ∈ ls, 0 ≤ s.f0 ∧ s.f0 < rows.length) :
    IterC 171 #[.pointer (some ⟨bs, 0, none⟩), .pointer (some ⟨bp, 0, none⟩)] w (ls.map fun s => (w.cell? (adr.add s.f0.toNat)).getD undef) := by
  intro l W1 J hJB hJS hY hj0
  have hlen : ls.length ≤ 9223372036854775807 := hs.2.1
  have hb1 := World.block_lt_of_cell? w _ h1
  have hb2 := World.block_lt_of_cell? w _ h2
  have HS := Aside0.mk hs
  have HR := Aside0.mk hr
  have HIN := Aside0.mk hin
  have HJS := Aside0.mk hJS
  have HJB := Aside0.mk hJB
  have HH1 := Aside0.mk h1
  have HH2 := Aside0.mk h2
  have e1 := ((hJB 0 W1 hj0).cell (p := ⟨bs, 0, none⟩) hb1).trans h1
  rw [show (ls.map fun s => (w.cell? (adr.add s.f0.toNat)).getD undef).length = ls.length from List.length_map _]
  clear hs hr hin hJS h1 h2 hJB
  refine callsIn_of_wp Try.func171 rfl trivial ?_ rfl
  simp only [Try.ntmps171, List.size_toArray, List.length_cons, List.length_nil, Nat.reduceAdd, Nat.reduceSub, Array.replicate_succ, Array.replicate_zero, List.push_toArray, List.append_toArray, List.nil_append, List.cons_append]
  gi_wp2
  clear e1
  gi_loopg [8] ls.length (fun gk v8 wr => ∃ k : Nat, k ≤ ls.length ∧ gk = ls.length - k ∧ v8 = .int .i64 (k : Int) ∧ J k wr)
  case atStart => exact ⟨0, Nat.zero_le _, rfl, rfl, hj0⟩
  case round =>
    clear hj0
    obtain ⟨k, hk, rfl, rfl, hj⟩ := hrel
    have hB := HJB.out k wr hj
    by_cases hlt : k < ls.length
    · have c1 : decide ((k : Int) < (ls.length : Int)) = true := decide_eq_true (by omega)
      have c2 : decide (k < ls.length) = true := decide_eq_true hlt
      have c3 : (0 : Int) ≤ (k : Int) := by omega
      obtain ⟨ads, ea, x1, x2⟩ := at_T38 HS.out (k : Int) (by omega) (by omega)
      cases ea
      rw [Int.toNat_natCast] at x1 x2
      have hrd : rd_T38 ls (k : Int) = ls[k] := by unfold rd_T38; rw [Int.toNat_natCast, List.getD_eq_getElem?_getD, List.getElem?_eq_getElem hlt]; rfl
      rw [hrd] at x1 x2
      have hAp := hadr (by omega)
      subst hAp
      obtain ⟨g1, g2⟩ := HIN.out _ (List.getElem_mem hlt)
      obtain ⟨adr', Ar, cr, er, y1, y2, y3⟩ := at_L1 HR.out ls[k].f0 g1 g2
      obtain rfl : adr = adr' := by injection er
      have hv : (ls.map fun s => (w.cell? (adr.add s.f0.toNat)).getD undef)[k]? = some (.slice Ar (rd_L1 rows ls[k].f0).length cr) := by
        rw [List.getElem?_map, List.getElem?_eq_getElem hlt]; simp [y1]
      have hyk := hY k
      generalize (ls.map fun s => (w.cell? (adr.add s.f0.toNat)).getD undef)[k]? = ov at hv hyk
      have HYK := Aside0.mk (fun W h => hyk W _ hv h)
      generalize (rd_L1 rows ls[k].f0).length = rn at y1 HYK
      have z1 := (hB.cell (World.block_lt_of_cell? w _ x1)).trans x1
      have z2 := (hB.cell (World.block_lt_of_cell? w _ x2)).trans x2
      have z3 := (hB.cell (World.block_lt_of_cell? w _ y1)).trans y1
      have z4 := (hB.cell (World.block_lt_of_cell? w _ HH2.out)).trans HH2.out
      have w1 := Nat.lt_of_lt_of_le (World.block_lt_of_cell? w _ y1) hB.size
      have w2 := Nat.lt_of_lt_of_le hb2 hB.size
      obtain ⟨f0, hf0⟩ : ∃ f0, f0 = ls[k].f0.toNat := ⟨_, rfl⟩
      have hf1 : ls[k].f0 = (f0 : Int) := by omega
      rw [← hf0] at z3 w1
      rw [hf1] at z1
      have g3 : (f0 : Int) < (rows.length : Int) := by omega
      have g4 : (0 : Int) ≤ (f0 : Int) := by omega
      have g5 : decide (f0 < rows.length) = true := decide_eq_true (by omega)
      have HJ := Aside0.mk hj
      have HB := Aside0.mk hB
      clear hv hyk y1 y2 y3 x1 x2 hj hB hY hf0 hf1 g1 g2 hrd
      generalize ls[k].f1 = f1 at z2
      obtain ⟨fn, tmps, assign, body, hy, hR⟩ := HYK.out _ (HJS.out k wr (wr.alloc (.cells #[.int .i64 (f0 : Int), .int .i64 f1] 38)) HJ.out ((Below.refl _ wr).alloc (Nat.le_refl _) _))
      gi_wp2
      refine hR.mono ?_
      rintro e W' ⟨rfl, hj2⟩
      have HJ2 := Aside0.mk hj2
      clear hj2 z1 z2 z3 z4 w1 w2
      gi_wp2
      gi_roundg (ls.length - (k + 1))
      case measure => omega
      case rel => exact ⟨k + 1, by omega, rfl, by first | rfl | rw [wrap_nextB (by omega)], HJ2.out⟩
    · obtain rfl : k = ls.length := by omega
      have c1 : decide ((ls.length : Int) < (ls.length : Int)) = false := decide_eq_false (by omega)
      have HJ := Aside0.mk hj
      clear hj hY hB
      gi_wp2
      go_end0
      exact ⟨⟨_, rfl⟩, HJ.out⟩
set_option maxHeartbeats 1000000 in
theorem sumShare_c {g : Nat} (eg : ∀ args w, (callFunc g args).run Try.prog w = .ok (.enter g args) w) (p : Addr) (f : Nat → Int) (A0 : Option Addr) (c0 : Nat) (l : List S38) (w : World) (hr : Kd.C k38 w A0 l.length l)
    (hg : ∀ (i : Nat) (W : World), i < l.length → Below w.heap.size w W → Calls Try.prog g #[.int .i64 (i : Int), .agg #[.int .i64 (rd_T38 l (i : Int)).f0, .int .i64 (rd_T38 l (i : Int)).f1], .pointer (some p)] W fun e w' => e = .returned (.int .i64 (f i)) ∧ Below W.heap.size W w') :
    Calls Try.prog 95 #[.slice A0 l.length c0, .func (.func g) #[] #[.pointer (some p)]] w fun e w' => e = .returned (.int .i64 (sumQ f l.length)) ∧ Below w.heap.size w w' := by
  have HG := Aside0.mk hg
  have HR := Aside0.mk hr
  have hlen : l.length ≤ 9223372036854775807 := hr.2.1
  clear hr hg
  go_enter Try.func95, Try.ntmps95
  go_wp2
  go_loopg [4, 9] l.length (fun gk v4 v9 w' => ∃ j : Nat, j ≤ l.length ∧ gk = l.length - j ∧ v9 = .int .i64 (j : Int) ∧ v4 = .int .i64 (sumQ f j) ∧ Aside0 (Below w.heap.size w w'))
  case atStart => exact ⟨0, Nat.zero_le _, rfl, rfl, rfl, ⟨by first | exact Below.refl _ _ | exact pw_below_drewN (Below.refl _ _) _⟩⟩
  case round =>
    obtain ⟨j, hj, rfl, rfl, rfl, HB⟩ := hrel
    by_cases hlt : j < l.length
    · have c1 : decide ((j : Int) < (l.length : Int)) = true := decide_eq_true (by omega)
      have c2 : decide (j < l.length) = true := decide_eq_true hlt
      have c4 : (0 : Int) ≤ (j : Int) := by omega
      obtain ⟨ad, e, x1, x2⟩ := at_T38 HR.out (j : Int) (by omega) (by omega)
      cases e
      rw [Int.toNat_natCast] at x1 x2
      replace x1 := (HB.out.cell (World.block_lt_of_cell? w _ x1)).trans x1
      replace x2 := (HB.out.cell (World.block_lt_of_cell? w _ x2)).trans x2
      obtain ⟨f0, hf0⟩ : ∃ f0, f0 = (rd_T38 l (j : Int)).f0 := ⟨_, rfl⟩
      obtain ⟨f1, hf1⟩ : ∃ f1, f1 = (rd_T38 l (j : Int)).f1 := ⟨_, rfl⟩
      have hcall := HG.out j (wr.alloc (.cells #[.int .i64 f0, .int .i64 f1] 38)) hlt (HB.out.alloc HB.out.size _)
      rw [← hf0] at x1 hcall
      rw [← hf1] at x2 hcall
      have hS : sumQ f (j + 1) = (sumQ f j + f j) % 1073741789 := rfl
      generalize f j = fj at hcall hS
      have HS := Aside0.mk hS
      have HC := Aside0.mk hcall
      have HL := Aside0.mk hlen
      clear hS hcall HG hlen hf0 hf1
      go_wp2_with fail
      refine HC.out.mono ?_
      rintro e w1 ⟨rfl, hb1⟩
      have HB1 := Aside0.mk (below_then (HB.out.alloc HB.out.size (.cells #[.int .i64 f0, .int .i64 f1] 38)) (by have := HB.out.size; simp; omega) hb1)
      clear hb1
      go_wp2_with (go_at_call 36; refine (field_Add_m.calls _ _ _ _ rfl).mono ?_; rintro e w2 ⟨rfl, hb2⟩; have HB2 := Aside0.mk (below_then HB1.out (by exact HB1.out.size) hb2); clear hb2)
      go_roundg (l.length - (j + 1))
      case measure => omega
      case rel =>
        have := HL.out
        exact ⟨j + 1, by omega, rfl, by first | rfl | rw [wrap_nextB (by omega)], by rw [HS.out], HB2⟩
    · obtain rfl : j = l.length := by omega
      have c1 : decide ((l.length : Int) < (l.length : Int)) = false := decide_eq_false (by omega)
      go_wp2
      go_ret
      exact ⟨rfl, HB.out⟩
set_option maxRecDepth 100000 in
set_option maxHeartbeats 1000000 in
theorem recover1_c (B : Nat) (A1 : Option Addr) (c1 : Nat) (y : List Int) (i : Nat) (f0 f1 : Int) (W : World) (hB : W.cell? ⟨B, 0, none⟩ = some (.slice A1 y.length c1)) (hr : Kd.C (Kd.int .i64) W A1 y.length y) (hi : i < y.length) :
    Calls Try.prog 96 #[.int .i64 (i : Int), .agg #[.int .i64 f0, .int .i64 f1], .pointer (some ⟨B, 0, none⟩)] W fun e w' => e = .returned (.int .i64 (y.getD i 0 * f1 % 1073741789)) ∧ Below W.heap.size W w' := by
  obtain ⟨ad, e, hx⟩ := Kd.at_int hr (i : Int) (by omega) (by omega)
  cases e
  rw [Int.toNat_natCast] at hx
  have e : rd y (i : Int) = y.getD i 0 := by unfold rd; rw [Int.toNat_natCast]
  rw [e] at hx
  generalize y.getD i 0 = x at hx
  have c2 : decide (i < y.length) = true := decide_eq_true hi
  have c3 : (i : Int) < (y.length : Int) := by omega
  have c4 : (0 : Int) ≤ (i : Int) := by omega
  have hb1 := World.block_lt_of_cell? W _ hB
  have hb2 := World.block_lt_of_cell? W _ hx
  clear e hr
  go_enter Try.func96, Try.ntmps96
  go_wp2
  obtain ⟨W1, hW1⟩ : ∃ W1, W.alloc (.cells #[.int .i64 f0, .int .i64 f1] 38) = W1 := ⟨_, rfl⟩
  rw [hW1]
  have hW : Below W.heap.size W W1 := by rw [← hW1]; exact (Below.refl _ _).alloc (Nat.le_refl _) _
  have h1 : W1.cell? ⟨B, 0, none⟩ = some (.slice (some ad) y.length c1) := (hW.cell (p := ⟨B, 0, none⟩) hb1).trans hB
  have h2 : W1.cell? (ad.add i) = some (.int .i64 x) := (hW.cell hb2).trans hx
  have h3 : W1.cell? ⟨W.heap.size, 1, none⟩ = some (.int .i64 f1) := by
    rw [← hW1]
    simp only [World.cell?]
    rw [World.alloc_heap_new]
    rfl
  have HW := Aside0.mk hW
  clear hB hx hb1 hb2 hW1 hW
  refine start_ (n := 8) (S := fun w' => w'.cell? ⟨B, 0, none⟩ = some (.slice (some ad) y.length c1) ∧ w'.cell? (ad.add i) = some (.int .i64 x) ∧ w'.cell? ⟨W.heap.size, 1, none⟩ = some (.int .i64 f1)) (ds := []) #[false, false, false, false, false, false, false, false] (by kernel_rfl) rfl rfl ⟨h1, h2, h3⟩ (fun hHeld => ?_)
  have hW3 : Below W.heap.size W W1.drew := HW.out.drew
  generalize W1.drew = W3 at hHeld hW3 ⊢
  have HW3 := Aside0.mk hW3
  clear h1 h2 h3 hW3
  refine take_ (i := 0) (N := some 6) (v := ?_) (a' := ?_) #[true, false, false, false, false, false, false, false] rfl rfl (by kernel_rfl) (fun _ _ _ h => h) (Or.inl ⟨by rfl, ?_⟩) hHeld ?_ ?_
  rotate_left
  · rintro w' ⟨s0, s1, s2⟩
    go_simp
    with_reducible rfl
  rotate_left
  · simp only [Act.put, List.setIfInBounds_toArray, List.set_cons_zero, List.set_cons_succ, i64_w, i32_w]
    rfl
  refine pure_ (i := 1) (N := some 7) (v := ?_) (a' := ?_) #[true, true, false, false, false, false, false, false] rfl rfl (by kernel_rfl) (fun _ _ _ h => h) (Or.inl ⟨by rfl, ?_⟩) ?_ ?_
  rotate_left
  · intro w'
    go_simp
    with_reducible rfl
  rotate_left
  · simp only [Act.put, List.setIfInBounds_toArray, List.set_cons_zero, List.set_cons_succ, i64_w, i32_w]
    rfl
  refine pure_ (i := 2) (N := some 8) (v := ?_) (a' := ?_) #[true, true, true, false, false, false, false, false] rfl rfl (by kernel_rfl) (fun _ _ _ h => h) (Or.inl ⟨by rfl, ?_⟩) ?_ ?_
  rotate_left
  · intro w'
    go_simp
    with_reducible rfl
  rotate_left
  · simp only [Act.put, List.setIfInBounds_toArray, List.set_cons_zero, List.set_cons_succ, i64_w, i32_w]
    rfl
  refine take_ (i := 3) (N := some 9) (v := ?_) (a' := ?_) #[true, true, true, true, false, false, false, false] rfl rfl (by kernel_rfl) (fun _ _ _ h => h) (Or.inl ⟨by rfl, ?_⟩) hHeld ?_ ?_
  rotate_left
  · rintro w' ⟨s0, s1, s2⟩
    go_simp
    with_reducible rfl
  rotate_left
  · simp only [Act.put, List.setIfInBounds_toArray, List.set_cons_zero, List.set_cons_succ, i64_w, i32_w]
    rfl
  refine pure_ (i := 4) (N := some 10) (v := ?_) (a' := ?_) #[true, true, true, true, true, false, false, false] rfl rfl (by kernel_rfl) (fun _ _ _ h => h) (Or.inl ⟨by rfl, ?_⟩) ?_ ?_
  rotate_left
  · intro w'
    go_simp
    with_reducible rfl
  rotate_left
  · simp only [Act.put, List.setIfInBounds_toArray, List.set_cons_zero, List.set_cons_succ, i64_w, i32_w]
    rfl
  refine take_ (i := 5) (N := some 11) (v := ?_) (a' := ?_) #[true, true, true, true, true, true, false, false] rfl rfl (by kernel_rfl) (fun _ _ _ h => h) (Or.inl ⟨by rfl, ?_⟩) hHeld ?_ ?_
  rotate_left
  · rintro w' ⟨s0, s1, s2⟩
    go_simp
    with_reducible rfl
  rotate_left
  · simp only [Act.put, List.setIfInBounds_toArray, List.set_cons_zero, List.set_cons_succ, i64_w, i32_w]
    rfl
  refine one_ (i := 6) (N := some 12) #[true, true, true, true, true, true, true, false] rfl rfl (by kernel_rfl) (by decide) (fun K hK => ?_)
  refine goes_ Try.func65 (by kernel_rfl) rfl #[.int .i64 x, .int .i64 f1] (by rfl) rfl rfl (by (try simp only [List.map_toArray, List.map_cons, List.map_nil]); first | done | rfl) ?_
  refine (mul_c _ _ _).mono ?_
  rintro e w' ⟨rfl, ⟨nd, rfl⟩⟩
  refine ⟨_, rfl, hK.out _ _ ⟨pw_cell_below (pw_below_drewN (Below.refl _ _) _) hHeld.1, pw_cell_below (pw_below_drewN (Below.refl _ _) _) hHeld.2.1, pw_cell_below (pw_below_drewN (Below.refl _ _) _) hHeld.2.2⟩ (fun hHeld => ?_)⟩
  clear hK K
  refine pure_ (i := 7) (N := some 5) (v := ?_) (a' := ?_) #[true, true, true, true, true, true, true, true] rfl rfl (by kernel_rfl) (fun _ _ _ h => h) (Or.inl ⟨by rfl, ?_⟩) ?_ ?_
  rotate_left
  · intro w'
    go_simp
    with_reducible rfl
  rotate_left
  · simp only [Act.put, List.setIfInBounds_toArray, List.set_cons_zero, List.set_cons_succ, i64_w, i32_w]
    rfl
  refine done_ (by kernel_rfl) ?_
  go_wp2
  go_ret
  refine ⟨?_, ?_⟩
  · first | rfl | simp
  · exact pw_below_drewN HW3.out _
end Go.Proofs.Ytdbamhckgaoibaa.P
namespace Go.Proofs.Ytdbamhckgaoibaa.P
open Go.RowKit Go.Proofs.YtdbamhckgaoibaaW.PrintWords Go.Proofs.YtdbamhckgaoibaaW.PrintLast Go.Proofs.YtdbamhckgaoibaaW.PrintMore
attribute [local go_sem] Oper.semAt_some
set_option linter.unusedVariables false
set_option linter.unusedSimpArgs false
def RedPost (w : World) (base g : Nat) (bs : List Nat) (t : List (List Int)) (many : Nat) (e : Ending) (w' : World) : Prop := ∃ v bs', e = .returned v ∧ bs'.length = bs.length ∧ Tab w' base g bs' (Sig.reduce t many).1 ∧
      w'.ownsRow w.heap.size 3 1 v (Sig.reduce t many).2.length (nums .i64 ((Sig.reduce t many).2.map fun (p : Nat) => (p : Int))) ∧ Chg (fun k => k = g ∨ ∃ j, j < t.length ∧ k = bs.getD j 0) w w'
theorem step_none {t : List (List Int)} {ps : List Nat} {c : Nat} (h : Sig.find t c ps.length = t.length) : Sig.step (t, ps) c = (t, ps) := by
  unfold Sig.step; rw [if_neg (by simp only; omega)]
theorem step_some {t : List (List Int)} {ps : List Nat} {c k : Nat} (h : Sig.find t c ps.length = k) (hk : k < t.length) : Sig.step (t, ps) c = (Sig.pivot t ps.length k c, ps ++ [c]) := by
  unfold Sig.step; rw [if_pos (by simp only; omega)]; simp only [h]
set_option maxRecDepth 100000 in
set_option maxHeartbeats 8000000 in
theorem reduce_c (w : World) (base g cap : Nat) (bs : List Nat) (t : List (List Int)) (many n : Nat) (hT : Tab w base g bs t) (hlb : bs.length = t.length) (hR : Sig.Rect t n) (hm : many ≤ n) (hn : n ≤ 1000000000000) (hl : t.length ≤ 1000000000000) (hcap : t.length ≤ cap) (hb : base ≤ w.heap.size) (hgl : g < w.heap.size) (hbl : ∀ j, j < t.length → bs.getD j 0 < w.heap.size) :
    Calls Try.prog 120 #[.slice (some ⟨g, 0, none⟩) t.length cap, .int .i64 (many : Int)] w (RedPost w base g bs t many) := by
  refine (callsIn_wide (n := 9)).1 ?_
  refine callsIn_of_wp_marks Try.func120 rfl trivial ?_ rfl
  simp only [Try.ntmps120, List.size_toArray, List.length_cons, List.length_nil, Nat.reduceAdd, Nat.reduceSub, Array.replicate_succ, Array.replicate_zero, List.push_toArray, List.append_toArray, List.nil_append, List.cons_append]
  obtain ⟨S, hS⟩ : ∃ S : Nat → Prop, S = (fun k => k = g ∨ ∃ j, j < t.length ∧ k = bs.getD j 0) := ⟨_, rfl⟩
  have h0 : RD w base g S t.length (.slice (some ⟨g, 0, none⟩) t.length cap) bs t [] (w.alloc (.cells #[.slice (some ⟨g, 0, none⟩) t.length cap] 134)) :=
    ⟨hT.below ((Below.refl _ w).alloc (Nat.le_refl _) _), Bx.new w _ _, (Chg.refl S w).then_alloc _, Marks.nil _ _, hlb, rfl, fun i hi => by rw [hS]; exact .inr ⟨i, hi, rfl⟩, by rw [hS]; exact .inl rfl, fun k hk => by
      rw [hS] at hk
      rcases hk with rfl | ⟨j, hj, rfl⟩
      · exact hgl
      · exact hbl j hj⟩
  have H0 := Aside0.mk h0
  have HR := Aside0.mk hR
  have HS := Aside0.mk hS
  clear hS h0 hT hR hbl
  gi_wp2
  refine wpIn_loop_ghost_k (fun gk a' w' => ∃ (ds : List Deferred) (u4 u5 u6 u7 u8 u9 u10 u11 u12 u14 u15 u16 u17 u18 u19 u20 u21 u22 u23 u24 u25 u26 u27 u28 u29 u30 u31 u32 u33 u34 u35 u36 u37 u38 u39 u40 u41 u42 u43 u44 u45 u46 u47 u48 u49 u50 u51 u52 u53 u54 u55 u56 u57 u58 u59 u60 u61 u62 u63 u64 u65 u66 u67 u68 u69 u70 u71 u72 u73 u74 u75 u76 u77 u78 u79 u80 u81 u82 u83 u84 u85 u86 u87 u88 u89 u90 u91 u92 u93 u94 u95 u96 u97 u98 u99 u100 : Value), (∃ c bs', c ≤ many ∧ gk = many - c ∧ u14 = .int .i64 (c : Int) ∧ RD w base g S t.length (.slice (some ⟨g, 0, none⟩) t.length cap) bs' (Sig.reduce t c).1 ds w' ∧ w'.ownsRow (w.heap.size + 1) 3 1 u4 (Sig.reduce t c).2.length (nums .i64 ((Sig.reduce t c).2.map fun (p : Nat) => (p : Int)))) ∧ a' = { tmps := #[.slice (some ⟨g, 0, none⟩) t.length cap, .int .i64 (many : Int), .pointer (some ⟨w.heap.size, 0, none⟩), undef, u4, u5, u6, u7, u8, u9, u10, u11, u12, .int .i64 (many : Int), u14, u15, u16, u17, u18, u19, u20, u21, u22, u23, u24, u25, u26, u27, u28, u29, u30, u31, u32, u33, u34, u35, u36, u37, u38, u39, u40, u41, u42, u43, u44, u45, u46, u47, u48, u49, u50, u51, u52, u53, u54, u55, u56, u57, u58, u59, u60, u61, u62, u63, u64, u65, u66, u67, u68, u69, u70, u71, u72, u73, u74, u75, u76, u77, u78, u79, u80, u81, u82, u83, u84, u85, u86, u87, u88, u89, u90, u91, u92, u93, u94, u95, u96, u97, u98, u99, u100, undef], defers := ds }) many ?_ ?_
  · refine ⟨_, _, _, _, _, _, _, _, _, _, _, _, _, _, _, _, _, _, _, _, _, _, _, _, _, _, _, _, _, _, _, _, _, _, _, _, _, _, _, _, _, _, _, _, _, _, _, _, _, _, _, _, _, _, _, _, _, _, _, _, _, _, _, _, _, _, _, _, _, _, _, _, _, _, _, _, _, _, _, _, _, _, _, _, _, _, _, _, _, _, _, _, _, _, _, _, _, ⟨0, bs, Nat.zero_le _, rfl, rfl, H0.out, ?_⟩, rfl⟩
    exact World.ownsRow_nil _ _ _ _
  · intro gk _ wo hinv
    obtain ⟨ds, hinv⟩ := hinv
    obtain ⟨u4, hinv⟩ := hinv
    obtain ⟨u5, hinv⟩ := hinv
    obtain ⟨u6, hinv⟩ := hinv
    obtain ⟨u7, hinv⟩ := hinv
    obtain ⟨u8, hinv⟩ := hinv
    obtain ⟨u9, hinv⟩ := hinv
    obtain ⟨u10, hinv⟩ := hinv
    obtain ⟨u11, hinv⟩ := hinv
    obtain ⟨u12, hinv⟩ := hinv
    obtain ⟨u14, hinv⟩ := hinv
    obtain ⟨u15, hinv⟩ := hinv
    obtain ⟨u16, hinv⟩ := hinv
    obtain ⟨u17, hinv⟩ := hinv
    obtain ⟨u18, hinv⟩ := hinv
    obtain ⟨u19, hinv⟩ := hinv
    obtain ⟨u20, hinv⟩ := hinv
    obtain ⟨u21, hinv⟩ := hinv
    obtain ⟨u22, hinv⟩ := hinv
    obtain ⟨u23, hinv⟩ := hinv
    obtain ⟨u24, hinv⟩ := hinv
    obtain ⟨u25, hinv⟩ := hinv
    obtain ⟨u26, hinv⟩ := hinv
    obtain ⟨u27, hinv⟩ := hinv
    obtain ⟨u28, hinv⟩ := hinv
    obtain ⟨u29, hinv⟩ := hinv
    obtain ⟨u30, hinv⟩ := hinv
    obtain ⟨u31, hinv⟩ := hinv
    obtain ⟨u32, hinv⟩ := hinv
    obtain ⟨u33, hinv⟩ := hinv
    obtain ⟨u34, hinv⟩ := hinv
    obtain ⟨u35, hinv⟩ := hinv
    obtain ⟨u36, hinv⟩ := hinv
    obtain ⟨u37, hinv⟩ := hinv
    obtain ⟨u38, hinv⟩ := hinv
    obtain ⟨u39, hinv⟩ := hinv
    obtain ⟨u40, hinv⟩ := hinv
    obtain ⟨u41, hinv⟩ := hinv
    obtain ⟨u42, hinv⟩ := hinv
    obtain ⟨u43, hinv⟩ := hinv
    obtain ⟨u44, hinv⟩ := hinv
    obtain ⟨u45, hinv⟩ := hinv
    obtain ⟨u46, hinv⟩ := hinv
    obtain ⟨u47, hinv⟩ := hinv
    obtain ⟨u48, hinv⟩ := hinv
    obtain ⟨u49, hinv⟩ := hinv
    obtain ⟨u50, hinv⟩ := hinv
    obtain ⟨u51, hinv⟩ := hinv
    obtain ⟨u52, hinv⟩ := hinv
    obtain ⟨u53, hinv⟩ := hinv
    obtain ⟨u54, hinv⟩ := hinv
    obtain ⟨u55, hinv⟩ := hinv
    obtain ⟨u56, hinv⟩ := hinv
    obtain ⟨u57, hinv⟩ := hinv
    obtain ⟨u58, hinv⟩ := hinv
    obtain ⟨u59, hinv⟩ := hinv
    obtain ⟨u60, hinv⟩ := hinv
    obtain ⟨u61, hinv⟩ := hinv
    obtain ⟨u62, hinv⟩ := hinv
    obtain ⟨u63, hinv⟩ := hinv
    obtain ⟨u64, hinv⟩ := hinv
    obtain ⟨u65, hinv⟩ := hinv
    obtain ⟨u66, hinv⟩ := hinv
    obtain ⟨u67, hinv⟩ := hinv
    obtain ⟨u68, hinv⟩ := hinv
    obtain ⟨u69, hinv⟩ := hinv
    obtain ⟨u70, hinv⟩ := hinv
    obtain ⟨u71, hinv⟩ := hinv
    obtain ⟨u72, hinv⟩ := hinv
    obtain ⟨u73, hinv⟩ := hinv
    obtain ⟨u74, hinv⟩ := hinv
    obtain ⟨u75, hinv⟩ := hinv
    obtain ⟨u76, hinv⟩ := hinv
    obtain ⟨u77, hinv⟩ := hinv
    obtain ⟨u78, hinv⟩ := hinv
    obtain ⟨u79, hinv⟩ := hinv
    obtain ⟨u80, hinv⟩ := hinv
    obtain ⟨u81, hinv⟩ := hinv
    obtain ⟨u82, hinv⟩ := hinv
    obtain ⟨u83, hinv⟩ := hinv
    obtain ⟨u84, hinv⟩ := hinv
    obtain ⟨u85, hinv⟩ := hinv
    obtain ⟨u86, hinv⟩ := hinv
    obtain ⟨u87, hinv⟩ := hinv
    obtain ⟨u88, hinv⟩ := hinv
    obtain ⟨u89, hinv⟩ := hinv
    obtain ⟨u90, hinv⟩ := hinv
    obtain ⟨u91, hinv⟩ := hinv
    obtain ⟨u92, hinv⟩ := hinv
    obtain ⟨u93, hinv⟩ := hinv
    obtain ⟨u94, hinv⟩ := hinv
    obtain ⟨u95, hinv⟩ := hinv
    obtain ⟨u96, hinv⟩ := hinv
    obtain ⟨u97, hinv⟩ := hinv
    obtain ⟨u98, hinv⟩ := hinv
    obtain ⟨u99, hinv⟩ := hinv
    obtain ⟨u100, hinv⟩ := hinv
    obtain ⟨hrel, ha⟩ := hinv
    subst ha
    intro _ _ _ _
    obtain ⟨c, bs', hc, rfl, rfl, hD, hO⟩ := hrel
    clear H0
    have hst := Sig.reduce_succ t c
    obtain ⟨hI, htl⟩ := Sig.inv_reduce HR.out c (by omega)
    generalize hrc : Sig.reduce t c = tc at hst hI htl hD hO
    obtain ⟨t', ps⟩ := tc
    simp only at hst hI htl hD hO
    have HRC := Aside0.mk hrc
    clear hrc
    have HD := Aside0.mk hD
    have HO := Aside0.mk hO
    have HI := Aside0.mk hI
    have HST := Aside0.mk hst
    have HTL := Aside0.mk htl
    obtain ⟨pA, pc, rfl⟩ := own_len hO
    have hbox := hD.box
    have hB2 := hbox.lt
    have e2 := hbox.1
    have hps := hI.few
    rw [htl] at hps
    clear hD hO hI hst htl hbox
    by_cases hcm : c < many
    · have f1 : decide ((c : Int) < (many : Int)) = true := decide_eq_true (by omega)
      gi_wp2
      obtain ⟨W0, hW0⟩ : ∃ W0, wo.alloc (.cells #[.int .i64 (ps.length : Int)] 3) = W0 := ⟨_, rfl⟩
      rw [hW0]
      have hb0 : Below wo.heap.size wo W0 := by rw [← hW0]; exact (Below.refl _ _).alloc (Nat.le_refl _) _
      have hr0 : Bx W0 wo.heap.size (.int .i64 (ps.length : Int)) := by rw [← hW0]; exact Bx.new _ _ _
      have HD0 := Aside0.mk (HD.out.below hb0)
      have HO0 := Aside0.mk (own_below HO.out hb0)
      have e2' := HD0.out.box.1
      have e6 := hr0.1
      have HR0 := Aside0.mk hr0
      clear HD HO e2 hW0 hb0 hr0
      gi_loopg [7] (t.length - ps.length) (fun gk v7 w7 => ∃ k : Nat, ps.length ≤ k ∧ k ≤ t.length ∧ gk = t.length - k ∧ v7 = .int .i64 (k : Int) ∧ Sig.find t' c k = Sig.find t' c ps.length ∧ w7 = W0)
      case atStart => exact ⟨ps.length, Nat.le_refl _, hps, rfl, rfl, rfl, rfl⟩
      case round =>
        obtain ⟨k, hk1, hk2, rfl, rfl, hf, hwe⟩ := hrel
        subst hwe
        have HF := Aside0.mk hf
        clear hf
        by_cases hk : k < t.length
        · have hk' : k < t'.length := by rw [HTL.out]; exact hk
          have hrl := (HI.out.rect _ (Sig.getD_mem hk')).1
          obtain ⟨⟨ck, m1, m2⟩, m3⟩ := HD0.out.tab.main k hk'
          obtain ⟨q1, q2⟩ := HD0.out.tab.rows k hk' c (by rw [hrl]; omega)
          have q0 : (t'.getD k []).getD c 0 = Sig.ent t' k c := rfl
          rw [q0] at q1
          rw [hrl] at m1 m2
          obtain ⟨bk, hbk⟩ : ∃ bk, bk = bs'.getD k 0 := ⟨_, rfl⟩
          rw [← hbk] at m2 q1 q2
          obtain ⟨x, hx⟩ : ∃ x, x = Sig.ent t' k c := ⟨_, rfl⟩
          rw [← hx] at q1
          have HX := Aside0.mk hx
          have HBK := Aside0.mk hbk
          have HRL := Aside0.mk hrl
          have f2 : decide ((k : Int) < (t.length : Int)) = true := decide_eq_true (by omega)
          have f3 : (0 : Int) ≤ (k : Int) := by omega
          have f4 : (k : Int) < (t.length : Int) := by omega
          have f5 : decide (k < t.length) = true := decide_eq_true hk
          have f6 : (0 : Int) ≤ (c : Int) := by omega
          have f7 : (c : Int) < (n : Int) := by omega
          have f8 : decide (c < n) = true := decide_eq_true (by omega)
          have f9 : ((k : Int) == (t.length : Int)) = false := beq_eq_false_iff_ne.2 (by omega)
          clear hx hbk hrl q0 m3 q2
          by_cases hz : x = 0
          · have hzb : (x == 0) = true := beq_iff_eq.2 hz
            have HZ := Aside0.mk hz
            clear hz
            gi_wp2
            gi_roundg (t.length - (k + 1))
            case measure => omega
            case rel => exact ⟨k + 1, by omega, by omega, rfl, by go_num, (Sig.find_step hk' (HX.out.symm.trans HZ.out)).symm.trans HF.out, rfl⟩
          · have hzb : (x == 0) = false := beq_eq_false_iff_ne.2 hz
            have HZ := Aside0.mk hz
            clear hz
            gi_wp2
            have hr' : ps.length < t'.length := by rw [HTL.out]; omega
            have hrT : ps.length < t.length := by omega
            have hkT := hk
            obtain ⟨⟨cr, l1, n1⟩, z3⟩ := HD0.out.tab.main ps.length hr'
            have z4 := (HD0.out.tab.main k hk').2
            have hrr := (HI.out.rect _ (Sig.getD_mem hr')).1
            rw [hrr] at l1 n1
            have g1 : (0 : Int) ≤ (ps.length : Int) := by omega
            have g2 : (ps.length : Int) < (t.length : Int) := by omega
            have g3 : decide (ps.length < t.length) = true := decide_eq_true hrT
            obtain ⟨br, hbr⟩ : ∃ br, br = bs'.getD ps.length 0 := ⟨_, rfl⟩
            rw [← hbr] at n1
            have HBR := Aside0.mk hbr
            have HRR := Aside0.mk hrr
            clear hbr hrr q1
            refine region_only (fun K' hK' => ?_)
            refine start_ (n := 16) (S := fun w' => w'.cell? ⟨w.heap.size, 0, none⟩ = some (.slice (some ⟨g, 0, none⟩) t.length cap) ∧ w'.cell? ⟨wo.heap.size, 0, none⟩ = some (.int .i64 (ps.length : Int)) ∧ w'.cell? ⟨g, k, none⟩ = some (.slice (some ⟨bk, 0, none⟩) n ck) ∧ w'.cell? ⟨g, ps.length, none⟩ = some (.slice (some ⟨br, 0, none⟩) n cr)) (ds := [13, 15]) #[false, false, false, false, false, false, false, false, false, false, false, false, false, false, false, false] (by kernel_rfl) rfl rfl ⟨e2', e6, m2, n1⟩ (fun hHeld => ?_)
            have hW3 : Below wr.heap.size wr wr.drew := (Below.refl _ _).drew
            generalize wr.drew = W3 at hHeld hW3 ⊢
            obtain ⟨W4, hW4⟩ : ∃ W4, W3.setCell ⟨g, ps.length, none⟩ (.slice (some ⟨bk, 0, none⟩) n ck) = W4 := ⟨_, rfl⟩
            obtain ⟨W5, hW5⟩ : ∃ W5, W4.setCell ⟨g, k, none⟩ (.slice (some ⟨br, 0, none⟩) n cr) = W5 := ⟨_, rfl⟩
            have y3 : W3.frozen? ⟨g, ps.length, none⟩ = false := (hW3.frozen (p := ⟨g, ps.length, none⟩) (World.block_lt_of_cell? wr _ n1)).trans z3
            have y4 : W4.frozen? ⟨g, k, none⟩ = false := by rw [← hW4, World.frozen?_setCell]; exact (hW3.frozen (p := ⟨g, k, none⟩) (World.block_lt_of_cell? wr _ m2)).trans z4
            obtain ⟨vk, y5⟩ : ∃ vk, W4.cell? ⟨g, k, none⟩ = some vk := by
              rw [← hW4]
              by_cases e : ps.length = k
              · subst e; exact ⟨_, World.cell?_setCell_same' _ _ _ (by rw [hHeld.2.2.1]; rfl)⟩
              · exact ⟨_, (World.cell?_setCell_other W3 ⟨g, ps.length, none⟩ ⟨g, k, none⟩ _ (by intro e3; injection e3 with _ e3; exact e e3)).trans hHeld.2.2.1⟩
            have y6 : W4.cell? ⟨w.heap.size, 0, none⟩ = some (.slice (some ⟨g, 0, none⟩) t.length cap) := by
              rw [← hW4]; exact (World.cell?_setCell_far W3 ⟨g, ps.length, none⟩ ⟨w.heap.size, 0, none⟩ _ (by simp only; omega)).trans hHeld.1
            have HW4 := Aside0.mk hW4
            have HW5 := Aside0.mk hW5
            have HN := Aside0.mk n1
            have HM := Aside0.mk m2
            have HWB := Aside0.mk hW3
            clear e2' e6 m2 n1 z3 z4 hW4 hW5 hW3
            refine take_ (i := 0) (N := some 40) (v := ?_) (a' := ?_) #[true, false, false, false, false, false, false, false, false, false, false, false, false, false, false, false] rfl rfl (by kernel_rfl) (fun _ _ _ h => h) (Or.inl ⟨by rfl, ?_⟩) hHeld ?_ ?_
            rotate_left
            · rintro w' ⟨s0, s1, s2, s3⟩
              go_simp
              with_reducible rfl
            rotate_left
            · simp only [Act.put, List.setIfInBounds_toArray, List.set_cons_zero, List.set_cons_succ, i64_w, i32_w]
              rfl
            refine take_ (i := 1) (N := some 41) (v := ?_) (a' := ?_) #[true, true, false, false, false, false, false, false, false, false, false, false, false, false, false, false] rfl rfl (by kernel_rfl) (fun _ _ _ h => h) (Or.inl ⟨by rfl, ?_⟩) hHeld ?_ ?_
            rotate_left
            · rintro w' ⟨s0, s1, s2, s3⟩
              go_simp
              with_reducible rfl
            rotate_left
            · simp only [Act.put, List.setIfInBounds_toArray, List.set_cons_zero, List.set_cons_succ, i64_w, i32_w]
              rfl
            refine take_ (i := 4) (N := some 44) (v := ?_) (a' := ?_) #[true, true, false, false, true, false, false, false, false, false, false, false, false, false, false, false] rfl rfl (by kernel_rfl) (fun _ _ _ h => h) (Or.inl ⟨by rfl, ?_⟩) hHeld ?_ ?_
            rotate_left
            · rintro w' ⟨s0, s1, s2, s3⟩
              go_simp
              with_reducible rfl
            rotate_left
            · simp only [Act.put, List.setIfInBounds_toArray, List.set_cons_zero, List.set_cons_succ, i64_w, i32_w]
              rfl
            refine pure_ (i := 5) (N := some 45) (v := ?_) (a' := ?_) #[true, true, false, false, true, true, false, false, false, false, false, false, false, false, false, false] rfl rfl (by kernel_rfl) (fun _ _ _ h => h) (Or.inl ⟨by rfl, ?_⟩) ?_ ?_
            rotate_left
            · intro w'
              go_simp
              with_reducible rfl
            rotate_left
            · simp only [Act.put, List.setIfInBounds_toArray, List.set_cons_zero, List.set_cons_succ, i64_w, i32_w]
              rfl
            refine pure_ (i := 6) (N := some 46) (v := ?_) (a' := ?_) #[true, true, false, false, true, true, true, false, false, false, false, false, false, false, false, false] rfl rfl (by kernel_rfl) (fun _ _ _ h => h) (Or.inl ⟨by rfl, ?_⟩) ?_ ?_
            rotate_left
            · intro w'
              go_simp
              with_reducible rfl
            rotate_left
            · simp only [Act.put, List.setIfInBounds_toArray, List.set_cons_zero, List.set_cons_succ, i64_w, i32_w]
              rfl
            refine take_ (i := 7) (N := some 47) (v := ?_) (a' := ?_) #[true, true, false, false, true, true, true, true, false, false, false, false, false, false, false, false] rfl rfl (by kernel_rfl) (fun _ _ _ h => h) (Or.inl ⟨by rfl, ?_⟩) hHeld ?_ ?_
            rotate_left
            · rintro w' ⟨s0, s1, s2, s3⟩
              go_simp
              with_reducible rfl
            rotate_left
            · simp only [Act.put, List.setIfInBounds_toArray, List.set_cons_zero, List.set_cons_succ, i64_w, i32_w]
              rfl
            refine take_ (i := 8) (N := some 48) (v := ?_) (a' := ?_) #[true, true, false, false, true, true, true, true, true, false, false, false, false, false, false, false] rfl rfl (by kernel_rfl) (fun _ _ _ h => h) (Or.inl ⟨by rfl, ?_⟩) hHeld ?_ ?_
            rotate_left
            · rintro w' ⟨s0, s1, s2, s3⟩
              go_simp
              with_reducible rfl
            rotate_left
            · simp only [Act.put, List.setIfInBounds_toArray, List.set_cons_zero, List.set_cons_succ, i64_w, i32_w]
              rfl
            refine take_ (i := 9) (N := some 49) (v := ?_) (a' := ?_) #[true, true, false, false, true, true, true, true, true, true, false, false, false, false, false, false] rfl rfl (by kernel_rfl) (fun _ _ _ h => h) (Or.inl ⟨by rfl, ?_⟩) hHeld ?_ ?_
            rotate_left
            · rintro w' ⟨s0, s1, s2, s3⟩
              go_simp
              with_reducible rfl
            rotate_left
            · simp only [Act.put, List.setIfInBounds_toArray, List.set_cons_zero, List.set_cons_succ, i64_w, i32_w]
              rfl
            refine pure_ (i := 10) (N := some 50) (v := ?_) (a' := ?_) #[true, true, false, false, true, true, true, true, true, true, true, false, false, false, false, false] rfl rfl (by kernel_rfl) (fun _ _ _ h => h) (Or.inl ⟨by rfl, ?_⟩) ?_ ?_
            rotate_left
            · intro w'
              go_simp
              with_reducible rfl
            rotate_left
            · simp only [Act.put, List.setIfInBounds_toArray, List.set_cons_zero, List.set_cons_succ, i64_w, i32_w]
              rfl
            refine take_ (i := 11) (N := some 51) (v := ?_) (a' := ?_) #[true, true, false, false, true, true, true, true, true, true, true, true, false, false, false, false] rfl rfl (by kernel_rfl) (fun _ _ _ h => h) (Or.inl ⟨by rfl, ?_⟩) hHeld ?_ ?_
            rotate_left
            · rintro w' ⟨s0, s1, s2, s3⟩
              go_simp
              with_reducible rfl
            rotate_left
            · simp only [Act.put, List.setIfInBounds_toArray, List.set_cons_zero, List.set_cons_succ, i64_w, i32_w]
              rfl
            refine pure_ (i := 12) (N := some 52) (v := ?_) (a' := ?_) #[true, true, false, false, true, true, true, true, true, true, true, true, true, false, false, false] rfl rfl (by kernel_rfl) (fun _ _ _ h => h) (Or.inl ⟨by rfl, ?_⟩) ?_ ?_
            rotate_left
            · intro w'
              go_simp
              with_reducible rfl
            rotate_left
            · simp only [Act.put, List.setIfInBounds_toArray, List.set_cons_zero, List.set_cons_succ, i64_w, i32_w]
              rfl
            refine pure_ (i := 3) (N := some 43) (v := ?_) (a' := ?_) #[true, true, false, true, true, true, true, true, true, true, true, true, true, false, false, false] rfl rfl (by kernel_rfl) (fun _ _ _ h => h) (Or.inl ⟨by rfl, ?_⟩) ?_ ?_
            rotate_left
            · intro w'
              go_simp
              with_reducible rfl
            rotate_left
            · simp only [Act.put, List.setIfInBounds_toArray, List.set_cons_zero, List.set_cons_succ, i64_w, i32_w]
              rfl
            refine fork_ (i := 2) (j := 13) (N := 42) (v := .slice (some ⟨g, 0, none⟩) t.length cap) (w1 := W4) (a' := ?fa) #[true, true, true, true, true, true, true, true, true, true, true, true, true, false, false, false] #[true, true, false, true, true, true, true, true, true, true, true, true, true, true, false, false] #[true, true, true, true, true, true, true, true, true, true, true, true, true, true, false, false] rfl rfl rfl rfl (by decide) (by kernel_rfl) (Or.inl ⟨by rfl, ?hy⟩) (by rfl) ?hs1 ?ha ?hw2 ?hs2 ?h
            case ha =>
              simp only [Act.put, List.setIfInBounds_toArray, List.set_cons_zero, List.set_cons_succ, i64_w, i32_w]
              rfl
            case hw2 => rfl
            case hs1 =>
              go_simp
              exact HW4.out
            case hs2 =>
              go_simp
              exact HW4.out
            case hy =>
              rintro w' (rfl | rfl)
              · obtain ⟨s0, s1, s2, s3⟩ := hHeld
                go_simp
              · go_simp
            refine pure_ (i := 14) (N := some 53) (v := ?_) (a' := ?_) #[true, true, true, true, true, true, true, true, true, true, true, true, true, true, true, false] rfl rfl (by kernel_rfl) (fun _ _ _ h => h) (Or.inl ⟨by rfl, ?_⟩) ?_ ?_
            rotate_left
            · intro w'
              go_simp
              with_reducible rfl
            rotate_left
            · simp only [Act.put, List.setIfInBounds_toArray, List.set_cons_zero, List.set_cons_succ, i64_w, i32_w]
              rfl
            refine last_ (i := 15) (N := none) #[true, true, true, true, true, true, true, true, true, true, true, true, true, true, true, true] rfl rfl (by kernel_rfl) (by decide) (fun K hK => ?_)
            refine skip_ (w1 := ?_) (by rfl) rfl ?_ ?_
            rotate_left
            · go_simp
              rfl
            refine hK.out _ _ ?_
            clear hK K
            rw [HW5.out]
            refine done_ (by kernel_rfl) ?_
            show K' _ _
            refine hK' _ _ ?_
            have HD5 : Aside0 (RD w base g S t.length (.slice (some ⟨g, 0, none⟩) t.length cap) ((bs'.set ps.length (bs'.getD k 0)).set k (bs'.getD ps.length 0)) ((t'.set ps.length (t'.getD k [])).set k (t'.getD ps.length [])) ds W5) := Aside0.mk (by
              rw [← HW5.out, ← HW4.out, HBK.out, HBR.out]
              exact (HD0.out.below HWB.out).swap hrT hk HRR.out HRL.out (by rw [← HBR.out]; exact hHeld.2.2.2) (by rw [← HBK.out]; exact hHeld.2.2.1) l1 m1)
            have hgw := HD5.out.slt g HD5.out.sg
            have HR5 : Aside0 (Bx W5 wo.heap.size (.int .i64 (ps.length : Int))) := Aside0.mk (by
              rw [← HW5.out, ← HW4.out]
              exact ((HR0.out.below HWB.out).far (c := g) (by omega) _ _).far (c := g) (by omega) _ _)
            have HO5 : Aside0 (W5.ownsRow (w.heap.size + 1) 3 1 (.slice pA ps.length pc) ps.length (nums .i64 (ps.map fun (p : Nat) => (p : Int)))) := Aside0.mk (by
              rw [← HW5.out, ← HW4.out]
              exact own_far (own_far (own_below HO0.out HWB.out) (by omega) _) (by omega) _)
            clear hHeld HWB HN HM y3 y4 y5 y6 HD0 HO0 HR0 HW4 HW5
            clear W3 W4
            have hx0 := HX.out
            obtain ⟨b1, hb1⟩ : ∃ b1, b1 = (bs'.set ps.length (bs'.getD k 0)).set k (bs'.getD ps.length 0) := ⟨_, rfl⟩
            rw [← hb1] at HD5
            obtain ⟨t1, ht1⟩ : ∃ t1, t1 = (t'.set ps.length (t'.getD k [])).set k (t'.getD ps.length []) := ⟨_, rfl⟩
            rw [← ht1] at HD5
            have hrow : t1.getD ps.length [] = t'.getD k [] := by rw [ht1]; exact swap_at hr' hk'
            have HT1 := Aside0.mk ht1
            have HROW := Aside0.mk hrow
            have h1l := HD5.out.tlen
            have hr1 : ps.length < t1.length := by rw [h1l]; exact hrT
            obtain ⟨⟨c1, p1, p2⟩, p3⟩ := HD5.out.tab.main ps.length hr1
            obtain ⟨p4, p5⟩ := HD5.out.tab.rows ps.length hr1 c (by rw [hrow, HRL.out]; omega)
            have p6 : (t1.getD ps.length []).getD c 0 = x := by rw [hrow]; exact hx0.symm
            rw [p6] at p4
            rw [hrow, HRL.out] at p1 p2
            obtain ⟨bp, hbp⟩ : ∃ bp, bp = b1.getD ps.length 0 := ⟨_, rfl⟩
            rw [← hbp] at p2 p4 p5
            have HBP := Aside0.mk hbp
            have hInF : Sig.InF x := by rw [hx0]; exact Sig.ent_inF HI.out.rect k c
            have HFI : Aside0 (field_Inverse.f x = some (Sig.finv x, 0)) := Aside0.mk (by
              unfold field_Inverse.f
              rw [if_neg (by have := HZ.out; unfold Sig.InF at hInF; omega)])
            have e2 := HD5.out.box.1
            have e6 := HR5.out.1
            have v1 := HD5.out.box.lt
            have v2 := HR5.out.lt
            have v3 : g < W5.heap.size := by omega
            clear hx0 hb1 ht1 hrow h1l p3 p5 p6 hbp hInF
            gi_wp2_with (first | (refine ⟨trivial, ?_⟩; gi_at_call 123; refine (callsIn_wide.2 (field_Inverse.calls x (Sig.finv x) 0 _ HFI.out)).mono ?_; rintro e w5 ⟨rfl, ⟨nd, hnd⟩⟩; have hdr : Below W5.heap.size W5 w5 := (by rw [hnd]; exact pw_below_drewN (Below.refl _ _) nd); have HDW := Aside0.mk hdr; have v4 : w.heap.size < w5.heap.size := Nat.lt_of_lt_of_le v1 hdr.size; have v5 : wo.heap.size < w5.heap.size := Nat.lt_of_lt_of_le v2 hdr.size; have v6 : g < w5.heap.size := Nat.lt_of_lt_of_le v3 hdr.size; replace e2 := (hdr.cell (p := ⟨w.heap.size, 0, none⟩) v1).trans e2; replace e6 := (hdr.cell (p := ⟨wo.heap.size, 0, none⟩) v2).trans e6; replace p2 := (hdr.cell (p := ⟨g, ps.length, none⟩) v3).trans p2; clear hnd hdr v1 v2 v3 p4) | (refine ⟨trivial, ?_⟩; gi_at_call 185; refine (callsIn_wide.2 (after_c _ _ _ _ _)).mono ?_; rintro e w' ⟨rfl, rfl⟩))
            obtain ⟨W6, hW6⟩ : ∃ W6, ((w5.alloc (.cells #[.int .i64 (Sig.finv x)] 3)).alloc (.cells #[.slice (some ⟨bp, 0, none⟩) n c1] 23)).alloc (.cells #[.int .i64 (c : Int)] 3) = W6 := ⟨_, rfl⟩
            rw [hW6]
            have z6 : W6.heap.size = w5.heap.size + 1 + 1 + 1 := by rw [← hW6]; simp
            have hB6 : Below w5.heap.size w5 W6 := by rw [← hW6]; exact (((Below.refl _ w5).alloc (Nat.le_refl _) _).alloc (by simp) _).alloc (by simp; omega) _
            have b8 : Bx W6 w5.heap.size (.int .i64 (Sig.finv x)) := by
              rw [← hW6]; exact ((Bx.new w5 _ _).alloc _).alloc _
            have b9 : Bx W6 (w5.heap.size + 1) (.slice (some ⟨bp, 0, none⟩) n c1) := by
              rw [← hW6]; have := (Bx.new (w5.alloc (.cells #[.int .i64 (Sig.finv x)] 3)) (.slice (some ⟨bp, 0, none⟩) n c1) 23).alloc (.cells #[.int .i64 (c : Int)] 3); simpa using this
            have b10 : Bx W6 (w5.heap.size + 1 + 1) (.int .i64 (c : Int)) := by
              rw [← hW6]; have := Bx.new ((w5.alloc (.cells #[.int .i64 (Sig.finv x)] 3)).alloc (.cells #[.slice (some ⟨bp, 0, none⟩) n c1] 23)) (.int .i64 (c : Int)) 3; simpa using this
            have HD6 := Aside0.mk ((HD5.out.below HDW.out).below hB6)
            have HR6 := Aside0.mk ((HR5.out.below HDW.out).below hB6)
            have HO6 := Aside0.mk (own_below (own_below HO5.out HDW.out) hB6)
            have HB8 := Aside0.mk b8
            have HB9 := Aside0.mk b9
            have HB10 := Aside0.mk b10
            have HZ6 := Aside0.mk z6
            clear hB6 b8 b9 b10 z6 hW6 e2 e6 p2 HD5 HR5 HO5 HDW
            have hbpl : bp < w.heap.size := by rw [HBP.out]; exact HD6.out.slt _ (HD6.out.low _ hrT)
            obtain ⟨ar, har⟩ : ∃ ar, ar = t1.getD ps.length [] := ⟨_, rfl⟩
            have hal : ar.length = n := by rw [har, HROW.out]; exact HRL.out
            have haI : ∀ y ∈ ar, Sig.InF y := by rw [har, HROW.out]; exact (HI.out.rect _ (Sig.getD_mem hk')).2
            have haz : ∀ d, d < c → ar.getD d 0 = 0 := fun d hd => by rw [har, HROW.out]; exact HI.out.zero k d hk1 hk' hd
            obtain ⟨L, hL⟩ : ∃ L, L = Sig.times ar (Sig.finv x) := ⟨_, rfl⟩
            have hLL : L.length = n := by rw [hL, Sig.times_length]; exact hal
            have hLx : ∀ j, L.getD j 0 = ar.getD j 0 * Sig.finv x % 1073741789 := fun j => by rw [hL]; exact Sig.times_getD _ _ _
            have h0 : CJ W6 base g b1 t1 ps.length ar L c W6 := ⟨by rw [hL, times_start haI haz, har, set_self_row]; exact HD6.out.tab, Chg.refl _ _⟩
            have H0 := Aside0.mk h0
            have HAL := Aside0.mk hal
            have HLL := Aside0.mk hLL
            have HLX := Aside0.mk hLx
            have HAR := Aside0.mk har
            have HL := Aside0.mk hL
            clear h0 hal hLL hLx har hL haI haz
            refine range_all (by omega) rfl (enters_of Try.func206 (by kernel_rfl) rfl) (CJ W6 base g b1 t1 ps.length ar L) c (fun j => j = n)
              (fun j vs j' => j < n ∧ vs = #[.int .i64 (j : Int), .int .i64 (ar.getD j 0)] ∧ j' = j + 1) ?_ H0.out ?_ ?_ ?_ ?_
            · exact CJ.own _ _ _ _ _ _ _ _ (Nat.le_refl _)
            · rintro j vs j' ⟨_, rfl, _⟩; rfl
            · intro l W2 J _ hJI hJ hY hj0
              refine (after1_in (l := l) (J := J) (bcol := w5.heap.size + 1 + 1) (brow := w5.heap.size + 1) (br := bp) (col := c) (L := n) (cap := c1) (x := fun j => ar.getD j 0) (by omega) (fun j W hj => ?_) (fun j W hj0 hj => hY j _ _ W ⟨hj0, rfl, rfl⟩ hj) (by omega) W2 hj0).mono (fun e W' h => ⟨h.1, n, rfl, h.2⟩)
              obtain ⟨hT2, hC2⟩ := hJI j W hj
              rw [← HBP.out] at hC2
              refine ⟨HB10.out.chg hC2 (by omega), HB9.out.chg hC2 (by omega), fun hjn => ?_⟩
              have hr := hT2.rows ps.length (by simpa using hr1)
              rw [getD_set_row hr1, if_pos rfl, ← HBP.out] at hr
              have := (hr j (by rw [mixRow_length (HAL.out.trans HLL.out.symm), HAL.out]; exact hjn)).1
              rw [mixRow_at (HAL.out.trans HLL.out.symm) (by rw [HAL.out]; exact hjn), if_neg (by omega)] at this
              exact this
            · rintro l j vs j' W ⟨hjn, rfl, rfl⟩ hI
              have HI2 := Aside0.mk hI
              clear hI
              have hLj := HLX.out j
              obtain ⟨xj, hxj⟩ : ∃ xj, xj = ar.getD j 0 := ⟨_, rfl⟩
              rw [← hxj] at hLj ⊢
              have HXJ := Aside0.mk hxj
              have HLJ := Aside0.mk hLj
              clear hxj hLj
              gi_wp2
              refine ⟨KeepsFrom.refl _ _, HI2.out, ?_⟩
              clear HI2
              rintro W2 ⟨hT2, hC2⟩
              have hmr : ((t1.set ps.length (mixRow ar L j)).getD ps.length []) = mixRow ar L j := by rw [getD_set_row hr1, if_pos rfl]
              have hml : (mixRow ar L j).length = n := by rw [mixRow_length (HAL.out.trans HLL.out.symm)]; exact HAL.out
              obtain ⟨⟨cr2, m1', m2⟩, _⟩ := hT2.main ps.length (by simpa using hr1)
              obtain ⟨q1, q2⟩ := hT2.rows ps.length (by simpa using hr1) j (by rw [hmr, hml]; exact hjn)
              rw [hmr, hml, ← HBP.out] at m2
              rw [hmr, mixRow_at (HAL.out.trans HLL.out.symm) (by rw [HAL.out]; exact hjn), if_neg (by omega), ← HXJ.out, ← HBP.out] at q1
              rw [← HBP.out] at q2
              have hCB := hC2
              rw [← HBP.out] at hCB
              have hbk := World.block_lt_of_cell? W2 _ q1
              have e2 := (HD6.out.box.chg hCB (by omega)).1
              have e6 := (HR6.out.chg hCB (by omega)).1
              have e8 := (HB8.out.chg hCB (by omega)).1
              have HT2 := Aside0.mk hT2
              have HC2 := Aside0.mk hC2
              have HMR := Aside0.mk hmr
              have HML := Aside0.mk hml
              have d1 : (0 : Int) ≤ (j : Int) := by omega
              have d2 : (j : Int) < (n : Int) := by omega
              have d3 : decide (j < n) = true := decide_eq_true hjn
              clear hT2 hC2 hCB hmr hml m1'
              gi_wp2
              refine startIn_ (n := 10) (S := fun w' => w'.cell? ⟨w.heap.size, 0, none⟩ = some (.slice (some ⟨g, 0, none⟩) t.length cap) ∧ w'.cell? ⟨wo.heap.size, 0, none⟩ = some (.int .i64 (ps.length : Int)) ∧ w'.cell? ⟨g, ps.length, none⟩ = some (.slice (some ⟨bp, 0, none⟩) n cr2) ∧ w'.cell? ⟨w5.heap.size, 0, none⟩ = some (.int .i64 (Sig.finv x))) (ds := [9]) #[false, false, false, false, false, false, false, false, false, false] (by kernel_rfl) rfl rfl (by kernel_rfl) (fun h => by obtain ⟨_, _, h⟩ := h; exact h) ⟨e2, e6, m2, e8⟩ (fun hHeld => ?_)
              have hW2d : Below W2.heap.size W2 W2.drew := (Below.refl _ _).drew
              generalize W2.drew = W3 at hHeld hW2d ⊢
              have q3 : W3.cell? ⟨bp, j, none⟩ = some (.int .i64 xj) := (hW2d.cell (p := ⟨bp, j, none⟩) hbk).trans q1
              clear e2 e6 e8 m2 q1
              refine take_ (i := 0) (N := some 73) (v := ?_) (a' := ?_) #[true, false, false, false, false, false, false, false, false, false] rfl rfl (by kernel_rfl) (fun _ _ _ h => h) (Or.inl ⟨by rfl, ?_⟩) hHeld ?_ ?_
              rotate_left
              · rintro w' ⟨s0, s1, s2, s3⟩
                go_simp
                with_reducible rfl
              rotate_left
              · simp only [Act.put, List.setIfInBounds_toArray, List.set_cons_zero, List.set_cons_succ, i64_w, i32_w]
                rfl
              refine take_ (i := 1) (N := some 74) (v := ?_) (a' := ?_) #[true, true, false, false, false, false, false, false, false, false] rfl rfl (by kernel_rfl) (fun _ _ _ h => h) (Or.inl ⟨by rfl, ?_⟩) hHeld ?_ ?_
              rotate_left
              · rintro w' ⟨s0, s1, s2, s3⟩
                go_simp
                with_reducible rfl
              rotate_left
              · simp only [Act.put, List.setIfInBounds_toArray, List.set_cons_zero, List.set_cons_succ, i64_w, i32_w]
                rfl
              refine pure_ (i := 2) (N := some 75) (v := ?_) (a' := ?_) #[true, true, true, false, false, false, false, false, false, false] rfl rfl (by kernel_rfl) (fun _ _ _ h => h) (Or.inl ⟨by rfl, ?_⟩) ?_ ?_
              rotate_left
              · intro w'
                go_simp
                with_reducible rfl
              rotate_left
              · simp only [Act.put, List.setIfInBounds_toArray, List.set_cons_zero, List.set_cons_succ, i64_w, i32_w]
                rfl
              refine take_ (i := 3) (N := some 76) (v := ?_) (a' := ?_) #[true, true, true, true, false, false, false, false, false, false] rfl rfl (by kernel_rfl) (fun _ _ _ h => h) (Or.inl ⟨by rfl, ?_⟩) hHeld ?_ ?_
              rotate_left
              · rintro w' ⟨s0, s1, s2, s3⟩
                go_simp
                with_reducible rfl
              rotate_left
              · simp only [Act.put, List.setIfInBounds_toArray, List.set_cons_zero, List.set_cons_succ, i64_w, i32_w]
                rfl
              refine pure_ (i := 4) (N := some 77) (v := ?_) (a' := ?_) #[true, true, true, true, true, false, false, false, false, false] rfl rfl (by kernel_rfl) (fun _ _ _ h => h) (Or.inl ⟨by rfl, ?_⟩) ?_ ?_
              rotate_left
              · intro w'
                go_simp
                with_reducible rfl
              rotate_left
              · simp only [Act.put, List.setIfInBounds_toArray, List.set_cons_zero, List.set_cons_succ, i64_w, i32_w]
                rfl
              refine pure_ (i := 5) (N := some 78) (v := ?_) (a' := ?_) #[true, true, true, true, true, true, false, false, false, false] rfl rfl (by kernel_rfl) (fun _ _ _ h => h) (Or.inl ⟨by rfl, ?_⟩) ?_ ?_
              rotate_left
              · intro w'
                go_simp
                with_reducible rfl
              rotate_left
              · simp only [Act.put, List.setIfInBounds_toArray, List.set_cons_zero, List.set_cons_succ, i64_w, i32_w]
                rfl
              refine take_ (i := 6) (N := some 79) (v := ?_) (a' := ?_) #[true, true, true, true, true, true, true, false, false, false] rfl rfl (by kernel_rfl) (fun _ _ _ h => h) (Or.inl ⟨by rfl, ?_⟩) hHeld ?_ ?_
              rotate_left
              · rintro w' ⟨s0, s1, s2, s3⟩
                go_simp
                with_reducible rfl
              rotate_left
              · simp only [Act.put, List.setIfInBounds_toArray, List.set_cons_zero, List.set_cons_succ, i64_w, i32_w]
                rfl
              refine one_ (i := 7) (N := some 80) #[true, true, true, true, true, true, true, true, false, false] rfl rfl (by kernel_rfl) (by decide) (fun K hK => ?_)
              refine goes_ Try.func65 (by kernel_rfl) rfl #[.int .i64 xj, .int .i64 (Sig.finv x)] (by rfl) rfl rfl (by (try simp only [List.map_toArray, List.map_cons, List.map_nil]); first | done | rfl) ?_
              refine (mul_c _ _ _).mono ?_
              rintro e w' ⟨rfl, ⟨nd, rfl⟩⟩
              refine ⟨_, rfl, hK.out _ _ ⟨pw_cell_below (pw_below_drewN (Below.refl _ _) _) hHeld.1, pw_cell_below (pw_below_drewN (Below.refl _ _) _) hHeld.2.1, pw_cell_below (pw_below_drewN (Below.refl _ _) _) hHeld.2.2.1, pw_cell_below (pw_below_drewN (Below.refl _ _) _) hHeld.2.2.2⟩ (fun hHeld => ?_)⟩
              clear hK K
              refine pure_ (i := 8) (N := some 81) (v := ?_) (a' := ?_) #[true, true, true, true, true, true, true, true, true, false] rfl rfl (by kernel_rfl) (fun _ _ _ h => h) (Or.inl ⟨by rfl, ?_⟩) ?_ ?_
              rotate_left
              · intro w'
                go_simp
                with_reducible rfl
              rotate_left
              · simp only [Act.put, List.setIfInBounds_toArray, List.set_cons_zero, List.set_cons_succ, i64_w, i32_w]
                rfl
              have hW5 := below_then hW2d hW2d.size (pw_below_drewN (Below.refl _ _) nd)
              have hfz : (W3.drewN nd).frozen? ⟨bp, j, none⟩ = false := (hW5.frozen (p := ⟨bp, j, none⟩) hbk).trans q2
              refine last_ (i := 9) (N := none) #[true, true, true, true, true, true, true, true, true, true] rfl rfl (by kernel_rfl) (by decide) (fun K hK => ?_)
              refine skip_ (w1 := ?_) (by rfl) rfl ?_ ?_
              rotate_left
              · go_simp
                rfl
              refine hK.out _ _ ?_
              clear hK K
              refine done_ (by kernel_rfl) ?_
              refine ⟨?_, ?_⟩
              · exact ((keeps_below hW5).trans (KeepsOthers.setCell _ _ _)).from _
              · have hT5 := (HT2.out.below hW5).put (i := ps.length) (j := j) (by simpa using hr1) (by rw [HMR.out, HML.out]; exact hjn) (L.getD j 0)
                rw [HMR.out, mixRow_set (HAL.out.trans HLL.out.symm) (by rw [HAL.out]; exact hjn), List.set_set, ← HBP.out] at hT5
                rw [← HLJ.out]
                exact ⟨hT5, (HC2.out.then_below hW5).then_set (.inl HBP.out) _⟩
            · rintro D j W hD hjn ⟨hT2, hC2⟩ hK
              rw [hjn] at hT2
              clear hjn j H0
              have hmx : t1.set ps.length (mixRow ar L n) = elim (scaled t' ps.length k c) ps.length c 0 := by
                rw [← HAL.out, mixRow_all (HAL.out.trans HLL.out.symm), HL.out, HAR.out, HROW.out, HT1.out, HX.out]; rfl
              rw [hmx] at hT2
              have hsl : (scaled t' ps.length k c).length = t.length := by rw [show (scaled t' ps.length k c).length = t'.length by simp [scaled]]; exact HTL.out
              have h7 := HD6.out.out hrT hT2 (by rw [elim_length]; exact hsl) hC2
              have hCB := hC2
              rw [← HBP.out] at hCB
              have HD7 := Aside0.mk (h7.mark (HD6.out.marks.cons (D := D) (Nat.le_trans (Nat.le_of_lt HD6.out.box.lt) hD) hK hD (fun D' hb' hD' => (hC2.block D' (Array.getElem?_eq_some_iff.1 hD').1 (fun e => by have h1 := HBP.out; omega)).trans hD')))
              have HR7 := Aside0.mk (HR6.out.chg hCB (by omega))
              have HO7 := Aside0.mk (own_chg HO6.out hCB (fun _ _ => by omega))
              have HSL := Aside0.mk hsl
              clear hT2 hC2 hCB h7 hK hmx hsl HB8 HB9 HB10 HZ6 HLX HLL HL HAL HAR HROW HT1 HBP HD6 HR6 HO6 p1 hbpl hr1
              have e2 := HD7.out.box.1
              gi_wp2
              clear e2
              gi_loopg [84] (t.length) (fun gk v84 w7 => ∃ i : Nat, i ≤ t.length ∧ gk = t.length - i ∧ v84 = .int .i64 (i : Int) ∧ RD w base g S t.length (.slice (some ⟨g, 0, none⟩) t.length cap) b1 (elim (scaled t' ps.length k c) ps.length c i) (markOf D :: ds) w7 ∧ Bx w7 wo.heap.size (.int .i64 (ps.length : Int)) ∧ w7.ownsRow (w.heap.size + 1) 3 1 (.slice pA ps.length pc) ps.length (nums .i64 (ps.map fun (p : Nat) => (p : Int))))
              case atStart => exact ⟨0, Nat.zero_le _, rfl, rfl, HD7.out, HR7.out, HO7.out⟩
              case round =>
                clear HD7 HR7 HO7
                obtain ⟨i, hi, rfl, rfl, hD8, hR8, hO8⟩ := hrel
                have e2 := hD8.box.1
                have e6 := hR8.1
                have HD8 := Aside0.mk hD8
                have HR8 := Aside0.mk hR8
                have HO8 := Aside0.mk hO8
                clear hD8 hR8 hO8
                by_cases hiT : i < t.length
                · have y1 : decide ((i : Int) < (t.length : Int)) = true := decide_eq_true (by omega)
                  by_cases hie : i = ps.length
                  · have y2 : ((i : Int) == (ps.length : Int)) = true := beq_iff_eq.2 (by omega)
                    have HIE := Aside0.mk hie
                    clear hie
                    gi_wp2
                    gi_roundg (t.length - (i + 1))
                    case measure => omega
                    case rel =>
                      refine ⟨i + 1, by omega, rfl, by go_num, ?_, HR8.out, HO8.out⟩
                      rw [elim, if_pos HIE.out]
                      exact HD8.out
                  · have y2 : ((i : Int) == (ps.length : Int)) = false := beq_eq_false_iff_ne.2 (by omega)
                    have hel : (elim (scaled t' ps.length k c) ps.length c i).length = t.length := by rw [elim_length]; exact HSL.out
                    have hcl := clear_c wr base g cap b1 (elim (scaled t' ps.length k c) ps.length c i) i ps.length c n HD8.out.tab (rect_elim (scaled_rect HI.out.rect hr' hk') (by rw [HSL.out]; exact hrT) i (by rw [HSL.out]; exact hi)) (by rw [hel]; exact hiT) (by rw [hel]; exact hrT) hie (by omega) (by omega)
                      (fun d hd => scaled_zero hr' hk' (by rw [HTL.out]; exact hi) (HI.out.zero k d hk1 hk' hd)) (Nat.le_trans hb HD8.out.chg.size) (by rw [hel]; exact hcap)
                    rw [hel] at hcl
                    have HCL := Aside0.mk hcl
                    have HEL := Aside0.mk hel
                    clear hcl hel
                    gi_wp2_with (refine ⟨trivial, ?_⟩; gi_at_call 186; refine (callsIn_wide.2 HCL.out).mono ?_; rintro e w8 ⟨rfl, hT8, hC8⟩; have HT8 := Aside0.mk hT8; have HC8 := Aside0.mk hC8; clear hT8 hC8 HCL)
                    gi_roundg (t.length - (i + 1))
                    case measure => omega
                    case rel =>
                      have hlt := HD8.out.slt _ (HD8.out.low i hiT)
                      refine ⟨i + 1, by omega, rfl, by go_num, ?_, HR8.out.chg HC8.out (by omega), own_chg HO8.out HC8.out (fun _ _ => by omega)⟩
                      rw [elim, if_neg hie]
                      exact HD8.out.out hiT HT8.out (by rw [List.length_set]; exact HEL.out) HC8.out
                · obtain rfl : i = t.length := by omega
                  have y1 : decide ((t.length : Int) < (t.length : Int)) = false := decide_eq_false (by omega)
                  have HOA := Aside0.mk (own_below HO8.out ((Below.refl _ wr).alloc (Nat.le_refl _) (.cells #[.int .i64 (c : Int)] 3)))
                  have hpl : (ps.length + 1) * 8 ≤ 140737488355328 := by omega
                  have hsz := HD8.out.box.lt
                  obtain ⟨i0, hi0, hz0, hz1, hz2⟩ := info_parts (P := Try.prog) (e := 3) (z := .int .i64 0) (size := 1) (bytes := 8) (by kernel_rfl)
                  gi_wp2_with (gi_at_builtin; refine wpListIn_append_own _ rfl _ _ 23 rfl (w.heap.size + 1) 3 i0 (.int .i64 0) 1 8 (by kernel_rfl) hi0 hz0 hz1 hz2 rfl (by decide) _ _ _ rfl HOA.out ⟨wr.heap.size, 0, none⟩ 1 1 [.int .i64 (c : Int)] rfl ?qc1 ?qc2 ?qc3 ?qc4 ?qc5 ?qc6 ?_)
                  case qc1 => rfl
                  case qc2 =>
                    intro j u hj
                    have hj1 := (List.getElem?_eq_some_iff.1 hj).1
                    obtain rfl : j = 0 := by simpa using hj1
                    simp only [List.getElem?_cons_zero, Option.some.injEq] at hj
                    subst hj
                    exact (Bx.new wr (.int .i64 (c : Int)) 3).1
                  case qc3 => intro u hu; simp only [List.mem_singleton] at hu; subst hu; rfl
                  case qc4 => unfold maxLen; omega
                  case qc5 => omega
                  case qc6 => simp; omega
                  intro v' w9 hown hgrow hnil
                  have HW9 := Aside0.mk hown
                  have HG9 := Aside0.mk hgrow
                  clear hown hgrow hnil e2 e6 hi0 hz0 hz1 hz2 i0
                  gi_wp2
                  gi_roundg (many - (c + 1))
                  case measure => omega
                  case rel =>
                    refine ⟨c + 1, b1, by omega, rfl, by go_num, ?_⟩
                    rw [HST.out, step_some (HF.out.symm.trans (Sig.find_stop (fun _ => by rw [← HX.out]; exact HZ.out))) hk']
                    have he : elim (scaled t' ps.length k c) ps.length c t.length = Sig.pivot t' ps.length k c := by rw [← HTL.out]; exact elim_pivot hr' hk'
                    have h9 := (HD8.out.below ((Below.refl _ wr).alloc (Nat.le_refl _) (.cells #[.int .i64 (c : Int)] 3))).appended HOA.out HG9.out
                    rw [he] at h9
                    refine ⟨h9, ?_⟩
                    have h10 := HW9.out
                    simp only [List.length_append, List.length_cons, List.length_nil, List.map_append, List.map_cons, List.map_nil, nums_append]
                    exact h10
        · obtain rfl : k = t.length := by omega
          gi_wp2
          gi_roundg (many - (c + 1))
          case measure => omega
          case rel =>
            refine ⟨c + 1, bs', by omega, rfl, by go_num, ?_⟩
            rw [HST.out, step_none (HF.out.symm.trans (Sig.find_stop (fun h => by rw [HTL.out] at h; omega)) |>.trans HTL.out.symm)]
            exact ⟨HD0.out, HO0.out⟩
    · have f1 : decide ((c : Int) < (many : Int)) = false := decide_eq_false (by omega)
      obtain rfl : c = many := by omega
      gi_wp2
      exact leaves_marks (base := w.heap.size) (R := RedPost w base g bs t c) (fun W => Tab W base g bs' t' ∧ W.ownsRow (w.heap.size + 1) 3 1 (.slice pA ps.length pc) ps.length (nums .i64 (ps.map fun (p : Nat) => (p : Int))) ∧ Chg S w W)
        (fun W D hb hD hI => ⟨hI.1.kept (grownBy_putObj' W D (.deferred none)) (fun r e => by cases e; exact ⟨_, hD, rfl⟩), own_nocell hI.2.1 (grownBy_putObj' W D (.deferred none)) (fun r e => by cases e; exact ⟨_, hD, rfl⟩), hI.2.2.then_grown (grownBy_putObj' W D (.deferred none)) (fun k e => by cases e; exact .inr hb)⟩)
        (fun W hI => ⟨.slice pA ps.length pc, by simp [results, Try.results120, go_sem], .slice pA ps.length pc, bs', rfl, HD.out.len.trans hlb.symm, by rw [HRC.out]; exact hI.1, by rw [HRC.out]; exact own_mono hI.2.1 (Nat.le_succ _), by rw [← HS.out]; exact hI.2.2⟩) ds wo HD.out.marks ⟨HD.out.tab, HO.out, HD.out.chg⟩
end Go.Proofs.Ytdbamhckgaoibaa.P
namespace Go.Proofs.Ytdbamhckgaoibaa.P
open Go.RowKit Go.Proofs.YtdbamhckgaoibaaW.PrintWords Go.Proofs.YtdbamhckgaoibaaW.PrintLast Go.Proofs.YtdbamhckgaoibaaW.PrintMore
set_option linter.unusedVariables false
set_option linter.unusedSimpArgs false
theorem need_c (n : Int) (w : World) : Calls Try.prog 182 #[.bool true, .int .i64 n] w fun e w' => e = .returned (.tuple #[]) ∧ w = w' := by
  go_enter Try.func182, Try.ntmps182
  go_wp2
  go_end0
  exact ⟨rfl, rfl⟩
theorem caught_idle (p : Addr) (w : World) : CallsD Try.prog 117 #[.pointer (some p)] .returning w fun e u' w' => e = .returned (.tuple #[]) ∧ u' = .returning ∧ w' = w := by
  refine callsD_of_wpS Try.func117 rfl fun c₀ cs hu => ?_
  apply wpS_seq
  apply wpS_region
  simp [wpOpsS, go_sem, recoverD, hu, Try.ntmps117, Exit.thenS]
  apply wpS_seq
  apply wpS_region
  simp [wpOpsS, go_sem, recoverD, hu, Try.ntmps117, Exit.thenS]
  refine wpS_cond (t := false) (by simp [Act.eval, Array.replicate]) ?_
  simp only [Bool.false_eq_true, if_false]
  refine wpS_of_wp (wp_skip ?_)
  cases c₀
  simp_all [bodyPostS, results, Try.results117]
theorem rd_row {l : List (List Int)} {j : Nat} (hlt : j < l.length) : rd_L1 l (j : Int) = l[j] := by
  unfold rd_L1
  rw [Int.toNat_natCast, List.getD_eq_getElem?_getD, List.getElem?_eq_getElem hlt]; rfl
theorem outQ_inF {l : List Int} (h : ∀ x ∈ l, Sig.InF x) : l.any outQ = false := by
  rw [List.any_eq_false]
  intro x hx
  have := h x hx
  unfold Sig.InF at this
  simp [outQ]
  omega
set_option maxHeartbeats 1000000 in
theorem check_c (A0 : Option Addr) (c0 : Nat) (l : List (List Int)) (n : Nat) (w : World) (hr : Kd.C (Kd.slice 3 (Kd.int .i64)) w A0 l.length l) (hR : Sig.Rect l n) (hn : n ≤ 64) :
    Calls Try.prog 183 #[.slice A0 l.length c0] w fun e w' => e = .returned (.tuple #[]) ∧ Drawn0 w w' := by
  have HR := Aside0.mk hr
  have HRT := Aside0.mk hR
  have hlen : l.length ≤ 9223372036854775807 := hr.2.1
  clear hr hR
  go_enter Try.func183, Try.ntmps183
  go_wp2
  go_loopg [9] l.length (fun gk v9 w' => ∃ j : Nat, j + gk = l.length ∧ v9 = .int .i64 (j : Int) ∧ Drawn0 w w')
  case atStart => exact ⟨0, by omega, rfl, by repeat (first | exact Drawn0.refl _ | apply Drawn0.step)⟩
  case round =>
    obtain ⟨j, hj, rfl, ⟨m, rfl⟩⟩ := hrel
    by_cases hlt : j < l.length
    · have c1 : decide ((j : Int) < (l.length : Int)) = true := decide_eq_true (by omega)
      have c2 : decide (j < l.length) = true := decide_eq_true hlt
      obtain ⟨ad, A1, c3, e, hx, hx2, hx3⟩ := at_L1 HR.out (j : Int) (by omega) (by omega)
      cases e
      rw [Int.toNat_natCast] at hx
      have hyl := (HRT.out _ (List.getElem_mem hlt)).1
      rw [rd_row hlt, hyl] at hx
      clear hx2 hx3
      have c4 : (0 : Int) ≤ (j : Int) := by omega
      have c5 : decide ((n : Int) ≤ 64) = true := decide_eq_true (by omega)
      clear hyl
      go_wp2_with (go_at_call 182; refine (need_c _ _).mono ?_; rintro e w' ⟨rfl, rfl⟩)
      go_roundg (gk - 1)
      case measure => omega
      case rel => exact ⟨j + 1, by omega, by go_num, by repeat (first | exact Drawn0.refl _ | apply Drawn0.step)⟩
    · have c1 : decide ((j : Int) < (l.length : Int)) = false := decide_eq_false (by omega)
      go_wp2
      go_loopg [20] l.length (fun gk v20 w' => ∃ j : Nat, j + gk = l.length ∧ v20 = .int .i64 (j : Int) ∧ Drawn0 w w')
      case atStart => exact ⟨0, by omega, rfl, by repeat (first | exact Drawn0.refl _ | apply Drawn0.step)⟩
      case round =>
        obtain ⟨i, hi, rfl, ⟨m2, rfl⟩⟩ := hrel
        clear c1 hlt hj
        by_cases hlt : i < l.length
        · have c1 : decide ((i : Int) < (l.length : Int)) = true := decide_eq_true (by omega)
          have c2 : decide (i < l.length) = true := decide_eq_true hlt
          obtain ⟨ad, A1, c3, e, hx, hx2, hx3⟩ := at_L1 HR.out (i : Int) (by omega) (by omega)
          have h0 : 0 < l.length := by omega
          obtain ⟨ad', A2, c3', e', hz, hz2, hz3⟩ := at_L1 HR.out ((0 : Nat) : Int) (by omega) (by omega)
          rw [e] at e'
          injection e' with e'
          subst e'
          cases e
          rw [Int.toNat_natCast] at hx hz
          have hyl := (HRT.out _ (List.getElem_mem hlt)).1
          have hy0 := (HRT.out _ (List.getElem_mem h0)).1
          rw [rd_row hlt] at hx hx2 hx3
          rw [rd_row h0, hy0] at hz
          rw [Addr.add_zero'] at hz
          have hq := outQ_inF (HRT.out _ (List.getElem_mem hlt)).2
          generalize l[i] = y at hx hx2 hx3 hyl hq
          have HX2 := Aside0.mk hx2
          have hx4 := hx3
          rw [hyl] at hx4
          have HX4 := Aside0.mk hx4
          clear hx4
          have HQ := Aside0.mk hq
          have hc := fun W (hC : Kd.C (Kd.int .i64) W A1 y.length y) => contains_oddL.calls A1 c3 y (y.any outQ) W hC hx2 rfl
          rw [hq, hyl] at hc
          rw [hyl] at hx
          have HC := Aside0.mk hc
          clear hx2 hx3 hz2 hz3 hq hc
          have c4 : (0 : Int) ≤ (i : Int) := by omega
          have c5 : (0 : Int) < (l.length : Int) := by omega
          have c6 : decide (0 < l.length) = true := decide_eq_true h0
          go_wp2_with (first | (go_at_call 161; refine (HC.out _ (Kd.C_below HX4.out (by repeat (first | exact Below.refl _ _ | apply pw_below_drewN | apply below_drew1)))).mono ?_; rintro e w' ⟨rfl, ⟨nd, rfl⟩⟩) | (go_at_call 182; refine (need_c _ _).mono ?_; rintro e w' ⟨rfl, rfl⟩))
          go_roundg (gk - 1)
          case measure => omega
          case rel => exact ⟨i + 1, by omega, by go_num, by repeat (first | exact Drawn0.refl _ | apply Drawn0.step)⟩
        · have c1 : decide ((i : Int) < (l.length : Int)) = false := decide_eq_false (by omega)
          go_wp2
          go_end0
          exact ⟨rfl, by repeat (first | exact Drawn0.refl _ | apply Drawn0.step)⟩
theorem C_rows_one {W : World} {A : Option Addr} {x : List Int} {c : Nat} (hx : Kd.C (Kd.int .i64) W A x.length x) (hc : x.length ≤ c) (b : Nat) (hb : W.cell? ⟨b, 0, none⟩ = some (.slice A x.length c)) :
    Kd.C (Kd.slice 3 (Kd.int .i64)) W (some ⟨b, 0, none⟩) 1 [x] := by
  refine ⟨rfl, by decide, fun _ => ⟨⟨b, 0, none⟩, rfl, fun j p hj => ?_⟩⟩
  have hj1 := (List.getElem?_eq_some_iff.1 hj).1
  obtain rfl : j = 0 := by simpa using hj1
  simp only [List.getElem?_cons_zero, Option.some.injEq] at hj
  subst hj
  refine ⟨[.slice A x.length c], rfl, ⟨A, c, rfl, hc, hx⟩, fun i u hu => ?_⟩
  have hi1 := (List.getElem?_eq_some_iff.1 hu).1
  obtain rfl : i = 0 := by simpa using hi1
  simp only [List.getElem?_cons_zero, Option.some.injEq] at hu
  subst hu
  exact hb
set_option maxHeartbeats 1000000 in
theorem examine_c (A0 : Option Addr) (c0 : Nat) (l : List (List Int)) (A1 : Option Addr) (c1 : Nat) (x : List Int) (w : World) (hr0 : Kd.C (Kd.slice 3 (Kd.int .i64)) w A0 l.length l) (hr1 : Kd.C (Kd.int .i64) w A1 x.length x) (hc1 : x.length ≤ c1)
    (hR : Sig.RectT l x) (hl : l.length ≤ 64) (hx : x.length ≤ 64) :
    Calls Try.prog 118 #[.slice A0 l.length c0, .slice A1 x.length c1] w fun e w' => e = .returned (.tuple #[]) ∧ Below w.heap.size w w' := by
  have c5 : decide ((l.length : Int) ≤ 64) = true := decide_eq_true (by omega)
  have HC1 := Aside0.mk (check_c A0 c0 l x.length w hr0 hR.1 hx)
  have HC2 := Aside0.mk (fun (W : World) (hb : Below w.heap.size w W) (b : Nat) (hcell : W.cell? ⟨b, 0, none⟩ = some (.slice A1 x.length c1)) => check_c (some ⟨b, 0, none⟩) 1 [x] x.length W (C_rows_one (Kd.C_below hr1 hb) hc1 b hcell) (fun row hrow => by
    rw [List.mem_singleton.1 hrow]; exact ⟨rfl, hR.2⟩) hx)
  have HR0 := Aside0.mk hr0
  have HRT := Aside0.mk hR
  by_cases h0 : 0 < l.length
  · obtain ⟨ad, A2, c2, e, hz, hz2, hz3⟩ := at_L1 hr0 ((0 : Nat) : Int) (by omega) (by omega)
    cases e
    have hyl := (hR.1 _ (List.getElem_mem h0)).1
    rw [rd_row h0, hyl, Int.toNat_natCast, Addr.add_zero'] at hz
    have hblt := World.block_lt_of_cell? w _ hz
    clear hr0 hr1 hR hz2 hz3 hyl hc1
    have c6 : ((l.length : Int) == 0) = false := beq_eq_false_iff_ne.2 (by omega)
    have c7 : (0 : Int) < (l.length : Int) := by omega
    have c8 : decide (0 < l.length) = true := decide_eq_true h0
    go_enter Try.func118, Try.ntmps118
    go_wp2_with (first | (go_at_call 182; refine (need_c _ _).mono ?_; rintro e w' ⟨rfl, rfl⟩) | (go_at_call 183; refine HC1.out.mono ?_; rintro e w' ⟨rfl, ⟨nd, rfl⟩⟩; clear HC1) | (go_at_call 183; refine (HC2.out _ (by exact (pw_below_drewN (Below.refl _ _) nd).alloc (Nat.le_refl _) _) _ (by exact (Bx.new (w.drewN nd) (.slice A1 x.length c1) 23).1)).mono ?_; rintro e w2 ⟨rfl, ⟨nd2, hw2⟩⟩; have hb2 : Below w.heap.size w w2 := (by rw [hw2]; exact pw_below_drewN ((pw_below_drewN (Below.refl _ _) nd).alloc (Nat.le_refl _) _) nd2); have HB2 := Aside0.mk hb2; replace hz := (hb2.cell hblt).trans hz; clear hw2 hb2 HC2))
    go_end0
    exact ⟨rfl, HB2.out⟩
  · have hl0 : l.length = 0 := by omega
    rw [hl0] at HC1 c5 ⊢
    clear hr0 hr1 hR HR0 HRT hc1
    go_enter Try.func118, Try.ntmps118
    go_wp2_with (first | (go_at_call 182; refine (need_c _ _).mono ?_; rintro e w' ⟨rfl, rfl⟩) | (go_at_call 183; refine HC1.out.mono ?_; rintro e w' ⟨rfl, ⟨nd, rfl⟩⟩; clear HC1) | (go_at_call 183; refine (HC2.out _ (by exact (pw_below_drewN (Below.refl _ _) nd).alloc (Nat.le_refl _) _) _ (by exact (Bx.new (w.drewN nd) (.slice A1 x.length c1) 23).1)).mono ?_; rintro e w2 ⟨rfl, ⟨nd2, hw2⟩⟩; have hb2 : Below w.heap.size w w2 := (by rw [hw2]; exact pw_below_drewN ((pw_below_drewN (Below.refl _ _) nd).alloc (Nat.le_refl _) _) nd2); have HB2 := Aside0.mk hb2; clear hw2 hb2 HC2))
    go_end0
    exact ⟨rfl, HB2.out⟩
theorem row_of {W : World} {base : Nat} {ok : Nat → Prop} {v : Value} {xs : List Int} (h : Kd.R (Kd.int .i64) 3 W base ok v xs) (hl : 0 < xs.length) :
    ∃ b c, v = .slice (some ⟨b, 0, none⟩) xs.length c ∧ xs.length ≤ c ∧ ok b ∧ base ≤ b ∧ b < W.heap.size ∧ RowAt W b xs := by
  obtain ⟨h0, inner, ho, hr⟩ := h
  rcases ho.2 with ⟨rfl, hn⟩ | ⟨g, cap, cur, rfl, hg, hh, hc1, hc2, hc3, hc4⟩
  · omega
  · refine ⟨g, cap, rfl, hc1, h0 g rfl, hg, (Array.getElem?_eq_some_iff.1 hh).1, fun j hj => ⟨?_, by simp [World.frozen?, hh]⟩⟩
    have hx : xs[j]? = some (xs.getD j 0) := by rw [List.getD_eq_getElem?_getD, List.getElem?_eq_getElem hj]; rfl
    have h1 : (inner.drop (j * 1)).take 1 = [.int .i64 (xs.getD j 0)] := hr.2 j _ hx
    rw [Nat.mul_one] at h1
    have hi : inner[j]? = some (.int .i64 (xs.getD j 0)) := by
      have h2 : ((inner.drop j).take 1)[0]? = some (.int .i64 (xs.getD j 0)) := by rw [h1]; rfl
      rw [List.getElem?_take_of_lt (by omega), List.getElem?_drop, Nat.add_zero] at h2
      exact h2
    have := ho.cells (g := g) rfl j _ hi
    rwa [add_plain] at this
theorem tab_of {W : World} {base : Nat} {ok : Nat → Prop} {v : Value} {t : List (List Int)} (h : Kd.S (Kd.slice 3 (Kd.int .i64)) 23 W base ok v t) (hl : 0 < t.length) (hrow : ∀ row ∈ t, 0 < row.length) :
    ∃ g cap bs, v = .slice (some ⟨g, 0, none⟩) t.length cap ∧ t.length ≤ cap ∧ bs.length = t.length ∧ Tab W base g bs t ∧ g < W.heap.size ∧ ∀ j, j < t.length → bs.getD j 0 < W.heap.size := by
  obtain ⟨f, h0, inner, ho, hr⟩ := h
  rw [List.length_zipIdx] at ho
  rcases ho.2 with ⟨rfl, hn⟩ | ⟨g, cap, cur, rfl, hg, hh, hc1, hc2, hc3, hc4⟩
  · omega
  · have H : ∀ i, i < t.length → ∃ b c, W.cell? ⟨g, i, none⟩ = some (.slice (some ⟨b, 0, none⟩) (t.getD i []).length c) ∧ (t.getD i []).length ≤ c ∧ b ≠ g ∧ f b = i ∧ base ≤ b ∧ b < W.heap.size ∧ RowAt W b (t.getD i []) := by
      intro i hi
      have hx : t[i]? = some (t.getD i []) := by rw [List.getD_eq_getElem?_getD, List.getElem?_eq_getElem hi]; rfl
      obtain ⟨vi, h1, h2⟩ := hr.2 i (t.getD i [], i) (Kd.zip_at hx)
      obtain ⟨b, c, rfl, q1, q2, q3, q4, q5⟩ := row_of h2 (hrow _ (Sig.getD_mem hi))
      refine ⟨b, c, ?_, q1, fun e => q2.1.2 (by rw [e]; rfl), q2.2, q3, q4, q5⟩
      have h1 : (inner.drop (i * 1)).take 1 = [.slice (some ⟨b, 0, none⟩) (t.getD i []).length c] := h1
      rw [Nat.mul_one] at h1
      have hii : inner[i]? = some (.slice (some ⟨b, 0, none⟩) (t.getD i []).length c) := by
        have h2 : ((inner.drop i).take 1)[0]? = some (.slice (some ⟨b, 0, none⟩) (t.getD i []).length c) := by rw [h1]; rfl
        rw [List.getElem?_take_of_lt (by omega), List.getElem?_drop, Nat.add_zero] at h2
        exact h2
      have := ho.cells (g := g) rfl i _ hii
      rwa [add_plain] at this
    have H' : ∀ i, ∃ b, i < t.length → ∃ c, W.cell? ⟨g, i, none⟩ = some (.slice (some ⟨b, 0, none⟩) (t.getD i []).length c) ∧ (t.getD i []).length ≤ c ∧ b ≠ g ∧ f b = i ∧ base ≤ b ∧ b < W.heap.size ∧ RowAt W b (t.getD i []) := by
      intro i
      by_cases hi : i < t.length
      · obtain ⟨b, hb⟩ := H i hi; exact ⟨b, fun _ => hb⟩
      · exact ⟨0, fun h => absurd h hi⟩
    refine ⟨g, cap, (List.range t.length).map (fun i => (H' i).choose), rfl, hc1, by simp, ?_⟩
    have hb : ∀ i, i < t.length → ((List.range t.length).map (fun i => (H' i).choose)).getD i 0 = (H' i).choose := fun i hi => Sig.getD_map_range _ _ _ _ hi
    refine ⟨⟨hg, fun i hi => ?_, fun i hi => ?_, fun i j hi hj e => ?_, fun i hi => ⟨?_, by simp [World.frozen?, hh]⟩, fun i hi => ?_⟩, (Array.getElem?_eq_some_iff.1 hh).1, fun i hi => ?_⟩
    · rw [hb i hi]; obtain ⟨c, q1, q2, q3, q4, q5, q6, q7⟩ := (H' i).choose_spec hi; exact q5
    · rw [hb i hi]; obtain ⟨c, q1, q2, q3, q4, q5, q6, q7⟩ := (H' i).choose_spec hi; exact q3
    · rw [hb i hi, hb j hj] at e
      obtain ⟨c, q1, q2, q3, q4, q5, q6, q7⟩ := (H' i).choose_spec hi
      obtain ⟨c', r1, r2, r3, r4, r5, r6, r7⟩ := (H' j).choose_spec hj
      rw [e] at q4
      exact q4.symm.trans r4
    · rw [hb i hi]; obtain ⟨c, q1, q2, q3, q4, q5, q6, q7⟩ := (H' i).choose_spec hi; exact ⟨c, q2, q1⟩
    · rw [hb i hi]; obtain ⟨c, q1, q2, q3, q4, q5, q6, q7⟩ := (H' i).choose_spec hi; exact q7
    · rw [hb i hi]; obtain ⟨c, q1, q2, q3, q4, q5, q6, q7⟩ := (H' i).choose_spec hi; exact q6
end Go.Proofs.Ytdbamhckgaoibaa.P
namespace Go.Proofs.Ytdbamhckgaoibaa.P
open Go.RowKit Go.Proofs.YtdbamhckgaoibaaW.PrintWords Go.Proofs.YtdbamhckgaoibaaW.PrintLast Go.Proofs.YtdbamhckgaoibaaW.PrintMore
set_option linter.unusedVariables false
set_option linter.unusedSimpArgs false
def CombPost (rows : List (List Int)) (target : List Int) (w : World) (e : Ending) (w' : World) : Prop :=
  ∃ v, e = .returned (.tuple #[v, .bool (Sig.combine rows target).isSome, .int .i64 0]) ∧ Kd.R (Kd.int .i64) 3 w' w.heap.size (fun _ => True) v ((Sig.combine rows target).getD []) ∧ Below w.heap.size w w'
theorem R_of_own {w : World} {base n : Nat} {ok : Nat → Prop} {v : Value} {xs : List Int} (h : w.ownsRow base 3 1 v n (nums .i64 xs)) (hn : xs.length = n) (hok : ∀ k, v.ownBlock = some k → ok k) : Kd.R (Kd.int .i64) 3 w base ok v xs := by
  subst hn
  exact R_of_owns h hok
set_option maxRecDepth 100000 in
set_option maxHeartbeats 4000000 in
theorem combine_c (A0 : Option Addr) (c0 : Nat) (rows : List (List Int)) (A1 : Option Addr) (c1 : Nat) (target : List Int) (w : World) (hr0 : Kd.C (Kd.slice 3 (Kd.int .i64)) w A0 rows.length rows) (hc0 : rows.length ≤ c0) (hr1 : Kd.C (Kd.int .i64) w A1 target.length target) (hc1 : target.length ≤ c1)
    (hR : Sig.RectT rows target) (hl : rows.length ≤ 64) (h1 : 0 < target.length) (hx : target.length ≤ 64) :
    Calls Try.prog 92 #[.slice A0 rows.length c0, .slice A1 target.length c1] w (CombPost rows target w) := by
  have HE := Aside0.mk (fun (W : World) (hb : Below w.heap.size w W) => examine_c A0 c0 rows A1 c1 target W (Kd.C_below hr0 hb) (Kd.C_below hr1 hb) hc1 hR hl hx)
  have HT := Aside0.mk (fun (W : World) (hb : Below w.heap.size w W) => linear_turned.calls (target.length * (rows.length + 2) + 1) A0 c0 rows A1 c1 target (Sig.turned rows target) W (Kd.C_below hr0 hb) hc0 (Kd.C_below hr1 hb) hc1 (turned_math (by omega) (by omega) (fun row h => (hR.1 row h).1)))
  have htr := Sig.turned_rect hR
  have htl := Sig.turned_length rows target
  have hcm : Sig.combine rows target = if Sig.fits (Sig.reduce (Sig.turned rows target) rows.length).1 (Sig.reduce (Sig.turned rows target) rows.length).2.length rows.length then some (Sig.combY (Sig.reduce (Sig.turned rows target) rows.length).1 (Sig.reduce (Sig.turned rows target) rows.length).2 rows.length) else none := rfl
  obtain ⟨hinv, hrl⟩ := Sig.inv_reduce htr rows.length (by omega)
  have hrd := fun (W : World) (B g cap : Nat) (bs : List Nat) (q1 : Tab W B g bs (Sig.turned rows target)) (q2 : bs.length = (Sig.turned rows target).length) (q3 : (Sig.turned rows target).length ≤ cap) (q4 : B ≤ W.heap.size) (q5 : g < W.heap.size) (q6 : ∀ j, j < (Sig.turned rows target).length → bs.getD j 0 < W.heap.size) => reduce_c W B g cap bs (Sig.turned rows target) rows.length (rows.length + 1) q1 q2 htr (by omega) (by omega) (by omega) q3 q4 q5 q6
  unfold RedPost at hrd
  unfold CombPost
  rw [hcm]
  have hrow : ∀ row ∈ Sig.turned rows target, 0 < row.length := fun row h => by have := (htr row h).1; omega
  generalize Sig.turned rows target = t0 at *
  generalize hred : Sig.reduce t0 rows.length = st at *
  obtain ⟨m, ps⟩ := st
  simp only at hinv hrl hrd ⊢
  have HRD := Aside0.mk hrd
  have HINV := Aside0.mk hinv
  have HROW := Aside0.mk hrow
  have HTL := Aside0.mk htl
  have HRL := Aside0.mk hrl
  clear hr0 hr1 hR hcm hrd hinv hrow hred htr htl hrl
  obtain ⟨R, hRR⟩ : ∃ R : Ending → World → Prop, R = fun e w' => ∃ v, e = .returned (.tuple #[v, .bool (if Sig.fits m ps.length rows.length = true then some (Sig.combY m ps rows.length) else none).isSome, .int .i64 0]) ∧ Kd.R (Kd.int .i64) 3 w' w.heap.size (fun _ => True) v ((if Sig.fits m ps.length rows.length = true then some (Sig.combY m ps rows.length) else none).getD []) ∧ Below w.heap.size w w' := ⟨_, rfl⟩
  rw [← hRR]
  have HRR := Aside0.mk hRR
  clear hRR
  go_enter_defers Try.func92, Try.ntmps92
  go_wp2_with (first | (go_at_call 118; refine (HE.out _ (by exact (Below.refl _ _).alloc (Nat.le_refl _) _)).mono ?_; rintro e w1 ⟨rfl, hb1⟩; have HB1 := Aside0.mk (below_then ((Below.refl _ w).alloc (Nat.le_refl _) _) (by simp) hb1); have HX1 := Aside0.mk ((Bx.new w (.int .i64 0) 29).below hb1); clear hb1) | (go_at_call 169; refine (HT.out _ HB1.out).mono ?_; rintro e w2 ⟨v2, rfl, hS2, hb2⟩; have HS2 := Aside0.mk hS2; have HB2 := Aside0.mk hb2; clear hS2 hb2))
  obtain ⟨g, cap, bs, rfl, hcap, hlb, hT, hg, hbl⟩ := tab_of HS2.out (by rw [HTL.out]; exact h1) HROW.out
  have hge := hT.geg
  have hges := hT.ge
  refine (HRD.out w2 w1.heap.size g cap bs hT hlb hcap HB2.out.size hg hbl).mono ?_
  rintro e w3 ⟨v3, bs', rfl, hlb', hT3, hO3, hC3⟩
  have hB3 : Below w1.heap.size w2 w3 := hC3.below HB2.out.size (fun k hk => by
    rcases hk with rfl | ⟨j, hj, rfl⟩
    · exact hge
    · exact hges j hj)
  have hB13 : Below w1.heap.size w1 w3 := HB2.out.trans hB3
  have hX3 : Bx w3 w.heap.size (.int .i64 0) := HX1.out.below hB13
  have hB : Below w.heap.size w w3 := HB1.out.trans (hB13.mono HB1.out.size)
  have hb1 := HX1.out.lt
  have hs23 := hC3.size
  obtain ⟨pA, pc, rfl⟩ := own_len hO3
  have HT3 := Aside0.mk hT3
  have HO3 := Aside0.mk hO3
  have HX3 := Aside0.mk hX3
  have HB := Aside0.mk hB
  have hs12 := HB2.out.size
  clear hT3 hO3 hX3 hB hT hlb hges hge hbl hC3 hB3 hB13 HE HT HRD HS2 HB1 HB2 HX1
  have hpf : ps.length ≤ t0.length := by rw [← HRL.out]; exact HINV.out.few
  have y1 : (0 : Int) ≤ (ps.length : Int) := by omega
  have y2 : (ps.length : Int) ≤ (t0.length : Int) := by omega
  have y3 : decide (ps.length ≤ t0.length) = true := decide_eq_true hpf
  obtain ⟨L, hL⟩ : ∃ L, L = t0.length - ps.length := ⟨_, rfl⟩
  obtain ⟨A28, C28, hsl, hA⟩ : ∃ A C, (∀ W : World, (Instr.sliceAt 134 (.slice (some ⟨g, 0, none⟩) t0.length cap) (some (.int .i64 (ps.length : Int))) none none).run Try.prog W = .ok (.slice A L C) W) ∧ (0 < L → A = some ⟨g, ps.length, none⟩) := by
    by_cases e : cap = ps.length
    · refine ⟨some ⟨g, 0, none⟩, cap - ps.length, fun W => ?_, fun h => by omega⟩
      simp [go_sem, y1, y2, e, hL]
    · refine ⟨some ⟨g, ps.length, none⟩, cap - ps.length, fun W => ?_, fun h => rfl⟩
      simp [go_sem, y1, y2, e, hL]
  have HA := Aside0.mk hA
  have HLL := Aside0.mk hL
  clear hA hL
  go_wp2
  clear hsl
  go_loopg [30] L (fun gk v30 w' => ∃ j : Nat, j ≤ L ∧ gk = L - j ∧ v30 = .int .i64 (j : Int) ∧ Aside0 (∀ i, ps.length ≤ i → i < ps.length + j → Sig.ent m i rows.length = 0) ∧ w' = w3)
  case atStart => exact ⟨0, Nat.zero_le _, rfl, rfl, ⟨fun i h1 h2 => by omega⟩, rfl⟩
  case round =>
    obtain ⟨j, hj, rfl, rfl, HZ, hwe⟩ := hrel
    subst hwe
    by_cases hjL : j < L
    · have hi : ps.length + j < m.length := by have := HRL.out; have := HLL.out; omega
      have hlen := (HINV.out.rect _ (Sig.getD_mem hi)).1
      obtain ⟨⟨ci, m1, m2⟩, m3⟩ := HT3.out.main _ hi
      obtain ⟨q1, q2⟩ := HT3.out.rows _ hi rows.length (by omega)
      have q0 : (m.getD (ps.length + j) []).getD rows.length 0 = Sig.ent m (ps.length + j) rows.length := rfl
      rw [q0] at q1
      rw [hlen] at m2
      obtain ⟨bi, hbi⟩ : ∃ bi, bi = bs'.getD (ps.length + j) 0 := ⟨_, rfl⟩
      rw [← hbi] at m2 q1
      obtain ⟨x, hx⟩ : ∃ x, x = Sig.ent m (ps.length + j) rows.length := ⟨_, rfl⟩
      rw [← hx] at q1
      have HX := Aside0.mk hx
      have hAA := HA.out (by omega)
      subst hAA
      have f1 : decide ((j : Int) < (L : Int)) = true := decide_eq_true (by omega)
      have f2 : (0 : Int) ≤ (j : Int) := by omega
      have f3 : (j : Int) < (L : Int) := by omega
      have f4 : decide (j < L) = true := decide_eq_true hjL
      have f5 : (0 : Int) ≤ (rows.length : Int) := by omega
      have f6 : (rows.length : Int) < ((rows.length + 1 : Nat) : Int) := by omega
      have f7 : decide (rows.length < rows.length + 1) = true := decide_eq_true (by omega)
      have hxc := HX3.out.1
      have hxf := HX3.out.2
      clear hx hbi q0 m3 q2 hlen m1
      by_cases hz : x = 0
      · have hzb : (x == 0) = true := beq_iff_eq.2 hz
        have HZ0 := Aside0.mk hz
        clear hz hxc hxf
        go_wp2
        go_roundg (L - (j + 1))
        case measure => omega
        case rel =>
          have hj64 : j < 64 := by have := HTL.out; have := HLL.out; omega
          refine ⟨j + 1, by omega, rfl, by rw [wrap_succ (by omega)], ⟨fun i h1 h2 => ?_⟩, rfl⟩
          by_cases h3 : i = ps.length + j
          · rw [h3, ← HX.out]; exact HZ0.out
          · exact HZ.out i h1 (by omega)
      · have hzb : (x == 0) = false := beq_eq_false_iff_ne.2 hz
        have HZ0 := Aside0.mk hz
        clear hz
        go_wp2
        refine leaves_cons (f := 117) (args := #[.pointer (some ⟨w.heap.size, 0, none⟩)]) (by simp) (by simp [go_sem]) ?_
        refine (caught_idle ⟨w.heap.size, 0, none⟩ _).mono ?_
        rintro e u' w'' ⟨rfl, rfl, rfl⟩
        have hcell : (wr.setCell ⟨w.heap.size, 0, none⟩ (.int .i64 0)).cell? ⟨w.heap.size, 0, none⟩ = some (.int .i64 0) := (HX3.out.set _).1
        have hres : ∀ W : World, W.cell? ⟨w.heap.size, 0, none⟩ = some (.int .i64 0) → Below w.heap.size w W → Sig.fits m ps.length rows.length = false → R (.returned (.tuple #[.slice none 0 0, .bool false, .int .i64 0])) W := fun W _ hW hf => by
          rw [HRR.out]
          refine ⟨.slice none 0 0, ?_, ?_, hW⟩
          · rw [hf]; rfl
          · rw [hf]; exact Kd.R_nil _ _ _ _ _
        have hf : Sig.fits m ps.length rows.length = false := by
          rw [Bool.eq_false_iff]
          intro h
          exact HZ0.out (HX.out.trans (Sig.fits_spec.1 h _ (Nat.le_add_right _ _) hi))
        have hfin := hres _ hcell (HB.out.setCell (Nat.le_refl _) _) hf
        clear hres hf HX3 HT3 HO3 HB
        simp [Leaves, settle, results, Try.results92, go_sem, hcell]
        exact hfin
    · obtain rfl : j = L := by omega
      have f1 : decide ((j : Int) < (j : Int)) = false := decide_eq_false (by omega)
      have hmk := print_make (P := Try.prog) 23 3 .i64 8 (by kernel_rfl) (by kernel_rfl) (by decide) rows.length (by omega)
      go_wp2
      clear hmk
      have hown := own_made wr wr.heap.size 3 .i64 rows.length (Nat.le_refl _) (by omega)
      obtain ⟨W4, hW4⟩ : ∃ W4, wr.alloc (.cells (madeCells #[.int .i64 0] rows.length) 3) = W4 := ⟨_, rfl⟩
      rw [hW4] at hown ⊢
      have hB4 : Below wr.heap.size wr W4 := by rw [← hW4]; exact (Below.refl _ _).alloc (Nat.le_refl _) _
      have HT4 := Aside0.mk (HT3.out.below hB4)
      have HO4 := Aside0.mk (own_below HO3.out hB4)
      have HX4 := Aside0.mk (HX3.out.below hB4)
      have HB4 := Aside0.mk (below_then HB.out HB.out.size hB4)
      have HY4 := Aside0.mk hown
      have hsW := hB4.size
      have hxl := HX3.out.lt
      have hgb : ∀ i, i < m.length → bs'.getD i 0 < wr.heap.size := fun i hi => by
        have h2 := (HINV.out.rect _ (Sig.getD_mem hi)).1
        exact World.block_lt_of_cell? wr _ (HT3.out.rows i hi 0 (by omega)).1
      have hgw : g < wr.heap.size := by omega
      have HGB := Aside0.mk hgb
      have hpo : ∀ b, (Value.slice pA ps.length pc).ownBlock = some b → b < wr.heap.size := fun b hb => own_lt HO3.out b hb
      have HPO := Aside0.mk hpo
      clear hpo
      have hcomb : Sig.fits m ps.length rows.length = true := Sig.fits_spec.2 (fun i h1 h2 => HZ.out i h1 (by have := HLL.out; have := HRL.out; omega))
      have HF := Aside0.mk hcomb
      clear hown hB4 hW4 HT3 HO3 HX3 HB HZ hgb hcomb hsW
      have hpn : ∀ k, k < ps.length → ps.getD k 0 < rows.length := fun k hk => Sig.getD_low HINV.out.low hk
      have HPN := Aside0.mk hpn
      clear hpn
      have hp64 : ps.length ≤ 64 := by have := HTL.out; omega
      obtain ⟨gy, hgy⟩ : ∃ gy, gy = wr.heap.size := ⟨_, rfl⟩
      rw [← hgy] at HY4 HGB HPO hgw hxl hs23 ⊢
      have hw2 : w.heap.size ≤ w2.heap.size := by omega
      clear hgy
      go_loopg [44] ps.length (fun gk v44 w' => ∃ k : Nat, k ≤ ps.length ∧ gk = ps.length - k ∧ v44 = .int .i64 (k : Int) ∧ w'.ownsRow gy 3 1 (.slice (some ⟨gy, 0, none⟩) rows.length rows.length) rows.length (nums .i64 (Sig.lay ps (fun k => Sig.ent m k rows.length) (List.replicate rows.length 0) k)) ∧ Chg (fun b => b = gy) W4 w')
      case atStart => exact ⟨0, Nat.zero_le _, rfl, rfl, HY4.out, Chg.refl _ _⟩
      case round =>
        obtain ⟨k, hk, rfl, rfl, hY, hC⟩ := hrel
        have hX := HX4.out.chg hC (by omega)
        have HC := Aside0.mk hC
        by_cases hkp : k < ps.length
        · have hT := HT4.out.chg hC (by omega) (fun i hi e => by have := HGB.out i hi; omega)
          have hO := own_move HO4.out (fun b hb => hC.block b (own_lt HO4.out b hb) (fun e => by have := HPO.out b hb; omega))
          obtain ⟨gp, hgp⟩ : ∃ gp, pA = some ⟨gp, 0, none⟩ := by
            rcases hO.2 with ⟨_, h0⟩ | ⟨gp, cp, cur, h0, _⟩
            · omega
            · injection h0 with h0; exact ⟨gp, h0⟩
          subst hgp
          obtain ⟨p1, _⟩ := own_at hO (k : Int) (by omega) (by omega)
          have e1 : rd (ps.map fun (p : Nat) => (p : Int)) (k : Int) = ((ps.getD k 0 : Nat) : Int) := by
            rw [rd_nat, List.getD_eq_getElem?_getD, List.getElem?_map, List.getD_eq_getElem?_getD, List.getElem?_eq_getElem hkp]; rfl
          rw [e1, Int.toNat_natCast] at p1
          have hpk := HPN.out k hkp
          have hkm : k < m.length := by have := HRL.out; omega
          have hlen := (HINV.out.rect _ (Sig.getD_mem hkm)).1
          obtain ⟨⟨ci, m1, m2⟩, m3⟩ := hT.main k hkm
          obtain ⟨q1, q2⟩ := hT.rows k hkm rows.length (by omega)
          have q0 : (m.getD k []).getD rows.length 0 = Sig.ent m k rows.length := rfl
          rw [q0] at q1
          rw [hlen] at m2
          have hstep : Sig.lay ps (fun k => Sig.ent m k rows.length) (List.replicate rows.length 0) (k + 1) = (Sig.lay ps (fun k => Sig.ent m k rows.length) (List.replicate rows.length 0) k).set (ps.getD k 0) (Sig.ent m k rows.length) := rfl
          obtain ⟨s1, s2⟩ := own_at hY ((ps.getD k 0 : Nat) : Int) (by omega) (by omega)
          obtain ⟨s3, _⟩ := own_store hY ((ps.getD k 0 : Nat) : Int) (Sig.ent m k rows.length)
          rw [Int.toNat_natCast] at s1 s2 s3
          rw [← hstep] at s3
          have hst2 := hC.then_set (.inl rfl) (j := ps.getD k 0) (.int .i64 (Sig.ent m k rows.length)) (b := gy)
          have HS3 := Aside0.mk s3
          have HS4 := Aside0.mk hst2
          have HHX := Aside0.mk hX
          have f2 : decide ((k : Int) < (ps.length : Int)) = true := decide_eq_true (by omega)
          have f3 : (0 : Int) ≤ (k : Int) := by omega
          have f4 : (k : Int) < (ps.length : Int) := by omega
          have f5 : decide (k < ps.length) = true := decide_eq_true hkp
          have f6 : (k : Int) < (t0.length : Int) := by have := HRL.out; omega
          have f7 : decide (k < t0.length) = true := decide_eq_true (by have := HRL.out; omega)
          have f8 : (0 : Int) ≤ (rows.length : Int) := by omega
          have f9 : (rows.length : Int) < ((rows.length + 1 : Nat) : Int) := by omega
          have f10 : decide (rows.length < rows.length + 1) = true := decide_eq_true (by omega)
          have f11 : (0 : Int) ≤ ((ps.getD k 0 : Nat) : Int) := by omega
          have f12 : ((ps.getD k 0 : Nat) : Int) < (rows.length : Int) := by omega
          have f13 : decide (ps.getD k 0 < rows.length) = true := decide_eq_true hpk
          clear hT hO hY hC hX e1 hpk hlen m1 m3 q2 q0 hstep s3 hst2 HHX
          obtain ⟨pk, hpk⟩ : ∃ pk, pk = ps.getD k 0 := ⟨_, rfl⟩
          obtain ⟨bi, hbi⟩ : ∃ bi, bi = bs'.getD k 0 := ⟨_, rfl⟩
          obtain ⟨x, hx⟩ : ∃ x, x = Sig.ent m k rows.length := ⟨_, rfl⟩
          rw [← hpk] at p1 s1 s2 HS3 HS4 f11 f12 f13
          rw [← hbi] at m2 q1
          rw [← hx] at q1 HS3 HS4
          clear hpk hbi hx
          go_wp2
          go_roundg (ps.length - (k + 1))
          case measure => omega
          case rel => exact ⟨k + 1, by omega, rfl, by first | rfl | rw [wrap_succ (by omega)], HS3.out, HS4.out⟩
        · obtain rfl : k = ps.length := by omega
          have f2 : decide ((ps.length : Int) < (ps.length : Int)) = false := decide_eq_false (by omega)
          have hxc := hX.1
          have hxf := hX.2
          have hcell : (wr.setCell ⟨w.heap.size, 0, none⟩ (.int .i64 0)).cell? ⟨w.heap.size, 0, none⟩ = some (.int .i64 0) := (hX.set _).1
          have hfin : R (.returned (.tuple #[.slice (some ⟨gy, 0, none⟩) rows.length rows.length, .bool true, .int .i64 0])) (wr.setCell ⟨w.heap.size, 0, none⟩ (.int .i64 0)) := by
            rw [HRR.out]
            refine ⟨.slice (some ⟨gy, 0, none⟩) rows.length rows.length, ?_, ?_, ?_⟩
            · rw [HF.out]; rfl
            · rw [HF.out]
              exact R_of_own (own_mono (own_far hY (b := w.heap.size) (j := 0) (by omega) (.int .i64 0)) (by omega)) (Sig.combY_length _ _ _) (fun _ _ => trivial)
            · exact (HB4.out.trans ((hC.below (base := w.heap.size) HB4.out.size (fun k e => by omega)))).setCell (Nat.le_refl _) _
          have HFIN := Aside0.mk hfin
          clear hfin hX HX4 hC HC HF HRR hY HY4 HT4 HO4 HB4
          go_wp2
          refine leaves_cons (f := 117) (args := #[.pointer (some ⟨w.heap.size, 0, none⟩)]) (by simp) (by simp [go_sem]) ?_
          refine (caught_idle ⟨w.heap.size, 0, none⟩ _).mono ?_
          rintro e u' w'' ⟨rfl, rfl, rfl⟩
          simp [Leaves, settle, results, Try.results92, go_sem, hcell]
          exact HFIN.out
end Go.Proofs.Ytdbamhckgaoibaa.P
namespace Go.Proofs.Ytdbamhckgaoibaa.P
open Go.RowKit Go.Proofs.YtdbamhckgaoibaaW.PrintWords Go.Proofs.YtdbamhckgaoibaaW.PrintLast Go.Proofs.YtdbamhckgaoibaaW.PrintMore
set_option linter.unusedVariables false
set_option linter.unusedSimpArgs false
theorem rows_c (A0 A1 As : Option Addr) (n0 c0 n1 c1 ns cs : Nat) (w : World) : Calls Try.prog 94 #[.agg #[.slice A0 n0 c0, .slice A1 n1 c1], .slice As ns cs] w fun e w' =>
    e = .returned (.func (.func 171) #[] #[.pointer (some ⟨w.heap.size + 1, 0, none⟩), .pointer (some ⟨w.heap.size, 0, none⟩)]) ∧ w' = (w.alloc (.cells #[.slice A0 n0 c0, .slice A1 n1 c1] 25)).alloc (.cells #[.slice As ns cs] 26) := by
  have hmf : ∀ (fn : Fn) (first cap : Array Value) (w : World), (Instr.makeFunc fn first cap).run Try.prog w = .ok (.func fn first cap) w := fun _ _ _ _ => rfl
  go_enter Try.func94, Try.ntmps94
  go_wp2
  go_ret
  exact ⟨by first | rfl | (simp; done) | (simp; rfl), rfl⟩
def inQ (x : Int) : Bool := decide (0 ≤ x) && decide (x < 1073741789)
def rightS (n : Nat) (s : S38) : Bool := decide (0 ≤ s.f0) && decide (s.f0 < n) && inQ s.f1
def sharesOk (n : Nat) : Int → List S38 → Bool
  | _, [] => true
  | last, s :: l => rightS n s && decide (last < s.f0) && sharesOk n s.f0 l
def colsP (rows : List (List Int)) : Nat := if rows.length = 0 then 1 else (rows.getD 0 []).length
def targetP (rows : List (List Int)) : List Int := (List.replicate (colsP rows) 0).set 0 1
def rowsOf (rows : List (List Int)) (ls : List S38) : List (List Int) := ls.map fun s => rows.getD s.f0.toNat []
def recT (rows : List (List Int)) (ls : List S38) : Int × Bool × Int :=
  match Sig.combine (rowsOf rows ls) (targetP rows) with
  | some y => (sumQ (fun i => y.getD i 0 * (rd_T38 ls (i : Int)).f1 % 1073741789) ls.length, true, 0)
  | none => (0, false, 0)
def recQ (rows : List (List Int)) (owners : List Int) (ls : List S38) : Int × Bool × Int :=
  if checkP rows owners = 0 then
    if sharesOk rows.length (-1) ls then recT rows ls else (0, false, 340)
  else (0, false, checkP rows owners)
theorem cols_math {rows : List (List Int)} {owners : List Int} : dealing_columns.f rows owners = some (colsP rows : Int) := by
  unfold dealing_columns.f colsP
  by_cases h : rows.length = 0
  · rw [if_pos (by omega), if_pos h]; rfl
  · rw [if_neg (by omega), if_neg h, if_pos (by omega), rdL0]
theorem sharesOk_count {n : Nat} : ∀ (ls : List S38) (last : Int), sharesOk n last ls = true → -1 ≤ last → (ls.length : Int) ≤ n - 1 - last ∨ ls = []
  | [], _, _, _ => .inr rfl
  | s :: l, last, h, h1 => by
    simp only [sharesOk, Bool.and_eq_true, decide_eq_true_eq, rightS] at h
    obtain ⟨⟨⟨⟨h2, h3⟩, _⟩, h4⟩, h5⟩ := h
    left
    rcases sharesOk_count l s.f0 h5 (by omega) with h6 | h6
    · rw [List.length_cons]; omega
    · subst h6; simp; omega
theorem sharesOk_all {n : Nat} : ∀ (ls : List S38) (last : Int), sharesOk n last ls = true → ∀ s ∈ ls, rightS n s = true
  | [], _, _, _, h => by cases h
  | s :: l, last, h, x, hx => by
    simp only [sharesOk, Bool.and_eq_true] at h
    rcases List.mem_cons.1 hx with rfl | hx
    · exact h.1.1
    · exact sharesOk_all l s.f0 h.2 x hx
theorem targetP_length (rows : List (List Int)) : (targetP rows).length = colsP rows := by simp [targetP]
theorem targetP_inF (rows : List (List Int)) : ∀ x ∈ targetP rows, Sig.InF x := fun x hx => by
  rcases List.mem_or_eq_of_mem_set hx with h | rfl
  · rw [List.eq_of_mem_replicate h]; exact ⟨by decide, by decide⟩
  · exact ⟨by decide, by decide⟩
theorem combOk_rec {rows : List (List Int)} {owners : List Int} {ls : List S38} (hc : checkP rows owners = 0) (hs : sharesOk rows.length (-1) ls = true) : Sig.RectT (rowsOf rows ls) (targetP rows) ∧ (rowsOf rows ls).length ≤ 64 ∧ 0 < (targetP rows).length ∧ (targetP rows).length ≤ 64 := by
  have hP := check_ok hc
  have hcol : ∀ s ∈ ls, rows.length ≠ 0 := fun s hx => by
    have := sharesOk_all ls _ hs s hx
    simp only [rightS, Bool.and_eq_true, decide_eq_true_eq] at this
    omega
  refine ⟨⟨fun row hr => ?_, targetP_inF rows⟩, ?_, ?_, ?_⟩
  · obtain ⟨s, hx, rfl⟩ := List.mem_map.1 hr
    have h1 := sharesOk_all ls _ hs s hx
    simp only [rightS, Bool.and_eq_true, decide_eq_true_eq] at h1
    have h2 := hP.row s.f0.toNat (by omega)
    refine ⟨?_, h2.2.2.2⟩
    rw [targetP_length, colsP, if_neg (hcol s hx)]
    exact h2.2.1
  · rw [rowsOf, List.length_map]
    have := hP.few
    rcases sharesOk_count ls _ hs (Int.le_refl _) with h | h
    · omega
    · rw [h]; simp
  · rw [targetP_length, colsP]
    split
    · decide
    · have := (hP.row 0 (by omega)).1
      omega
  · rw [targetP_length, colsP]
    split
    · decide
    · exact (hP.row 0 (by omega)).2.2.1
end Go.Proofs.Ytdbamhckgaoibaa.P
namespace Go.Proofs.Ytdbamhckgaoibaa.P
open Go.RowKit Go.Proofs.YtdbamhckgaoibaaW.PrintWords Go.Proofs.YtdbamhckgaoibaaW.PrintLast Go.Proofs.YtdbamhckgaoibaaW.PrintMore
def shareQ (rows : List (List Int)) (s : List Int) (i : Nat) : S38 := ⟨(i : Int), Sig.dot (rows.getD i []) s % 1073741789⟩
def sharesQ (rows : List (List Int)) (s : List Int) : List S38 := (List.range rows.length).map (shareQ rows s)
def commitQ (n : Int) : Int := (4 : Int) ^ (n % 1073741789).toNat % 2147483579
theorem pow_four (n : Int) : group_Pow.f 4 n = some (commitQ n, 0) := by
  unfold group_Pow.f
  rw [el_four]; rfl
theorem commitQ_el (a : Int) : isEl (commitQ a) = true := el_pow el_four _
theorem commitQ_nat {a : Int} {m : Nat} (h : (a % 1073741789).toNat = m % ordQ) : commitQ a = 4 ^ m % 2147483579 := by
  unfold commitQ
  rw [h, ← el_pow_mod el_four]
theorem commitQ_add (a b : Int) : commitQ a * commitQ b % 2147483579 = commitQ (a + b) := by
  rw [commitQ_nat (a := a + b) (m := (a % 1073741789).toNat + (b % 1073741789).toNat) (by unfold ordQ; omega)]
  unfold commitQ
  rw [← Int.mul_emod, ← Int.pow_add]
theorem nat_mul_mod (a b : Int) : (a * b % 1073741789).toNat = (a % 1073741789).toNat * (b % 1073741789).toNat % ordQ := by
  have h1 : ((a % 1073741789).toNat : Int) = a % 1073741789 := by omega
  have h2 : ((b % 1073741789).toNat : Int) = b % 1073741789 := by omega
  have h3 : (((a % 1073741789).toNat * (b % 1073741789).toNat % ordQ : Nat) : Int) = a * b % 1073741789 := by
    unfold ordQ
    rw [Int.natCast_emod, Int.natCast_mul, h1, h2, Int.mul_emod a b]; rfl
  omega
theorem commitQ_pow (a e : Int) : commitQ a ^ (e % 1073741789).toNat % 2147483579 = commitQ (a * e) := by
  rw [commitQ_nat (a := a * e) (nat_mul_mod a e)]
  unfold commitQ
  rw [Sig.pow_emod, ← Int.pow_mul]
theorem commitQ_zero : commitQ 0 = 1 := by unfold commitQ; rfl
theorem pow_el {c : Int} (h : isEl c = true) (e : Int) : group_Pow.f c e = some (c ^ (e % 1073741789).toNat % 2147483579, 0) := by
  unfold group_Pow.f
  rw [h]; rfl
theorem valid_math (a : Int) : group_Valid.f a = some (isEl a) := by first | rfl | (unfold group_Valid.f; rfl)
theorem el_range {a : Int} (h : isEl a = true) : 1 ≤ a ∧ a < 2147483579 := ⟨((isEl_iff a).1 h).1, ((isEl_iff a).1 h).2.1⟩
theorem mul_els {a b : Int} (ha : isEl a = true) (hb : isEl b = true) : group_Mul.f a b = some (a * b % 2147483579, 0) := by
  have h1 := el_range ha
  have h2 := el_range hb
  have hr := mulP_range (x := a) (y := b) ⟨by omega, h1.2⟩ ⟨by omega, h2.2⟩
  unfold group_Mul.f
  rw [valid_math, valid_math, ha, hb]
  simp only [Option.bind_some, if_true]
  rw [wrap_small hr.1 (by omega), tmod_small (m := 2147483579) hr.1]
end Go.Proofs.Ytdbamhckgaoibaa.P
