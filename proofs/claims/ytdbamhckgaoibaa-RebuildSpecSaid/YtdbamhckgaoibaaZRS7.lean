/- A part of the proof of RebuildSpec: slices.Collect over an iterator that yields known slices.; dealing.sum, dealing.times.; dealing.rows: the rows of shares, in turn.; dealing.Recover.; What is dealt, and the group's elements, in plain words.; dealing.check, right, Public and Fits in plain words.; The calls of signatoryref23.Check, signatoryref23.Columns, signatoryref34.Columns, signatoryref34.Small, signatoryref34.SameInts, signatoryref34.Same, signatory; The reference's Check says what program.Check says.; slices.Grow of nothing, slices.Concat. -/
import Derived.Test.YtdbamhckgaoibaaZRS6
namespace Go.Proofs.Ytdbamhckgaoibaa.P
open Go.RowKit Go.Proofs.YtdbamhckgaoibaaW.PrintWords Go.Proofs.YtdbamhckgaoibaaW.PrintLast Go.Proofs.YtdbamhckgaoibaaW.PrintMore
attribute [local go_sem] Oper.semAt_some
set_option linter.unusedVariables false
set_option linter.unusedSimpArgs false
def IterC (g : Nat) (lb : Array Value) (w : World) (yv : List Value) : Prop :=
  ∀ (l : Nat) (W1 : World) (J : Nat → World → Prop), (∀ k W, J k W → Below w.heap.size w W) → (∀ k W W', J k W → Below W.heap.size W W' → J k W') →
    (∀ k W v, yv[k]? = some v → J k W → YieldAt Fence.wide 7 Try.prog l #[v] W fun e W' => e = .returned (.bool true) ∧ J (k + 1) W') → J 0 W1 →
    CallsIn Fence.wide 8 Try.prog g (#[.func (.yield l) #[] #[]] ++ lb) W1 fun e W' => (∃ v, e = .returned v) ∧ J yv.length W'
def AI (w : World) (Bq : Nat) (yv : List Value) (k : Nat) (W : World) : Prop :=
  ∃ v, Bx W Bq v ∧ W.ownsRow (Bq + 1) 23 1 v k (yv.take k) ∧ Below Bq w W
theorem AI.own (w : World) (Bq : Nat) (yv : List Value) {B : Nat} (hB : Bq ≤ B) (hw : Bq ≤ w.heap.size) : OwnFrom B (AI w Bq yv) := by
  rintro k W W' row ⟨v, h1, h2, h3⟩ hg hr; exact ⟨v, h1.kept hg (fun r e => (hr r e).2), own_nocell h2 hg (fun r e => (hr r e).2), h3.grown hg (Nat.le_trans hw h3.size) (fun k e => Nat.le_trans hB (hr k e).1)⟩
theorem keeps_own {W W' : World} {base n size : Nat} {e : TypeId} {v : Value} {xs : List Value} (hO : W.ownsRow base e size v n xs) (hg : W.grownBy W' v.ownBlock) : KeepsOthers W W' :=
  ⟨hg.size, fun k o hk hf => (hg.block k (Array.getElem?_eq_some_iff.1 hk).1 (fun e1 => by
    obtain ⟨cells, hcl⟩ := own_typed hO k e1.symm; rw [hcl] at hk; cases hk
    simp [Obj.isCells] at hf)).trans hk⟩
theorem AI.below {w : World} {Bq : Nat} {yv : List Value} {k : Nat} {W W' : World} (h : AI w Bq yv k W) (hb : Below W.heap.size W W') (hw : Bq ≤ w.heap.size) : AI w Bq yv k W' := by
  obtain ⟨v, h1, h2, h3⟩ := h; exact ⟨v, h1.below hb, own_below h2 hb, h3.trans (hb.mono (Nat.le_trans hw h3.size))⟩
set_option maxRecDepth 100000 in
set_option maxHeartbeats 4000000 in
theorem appendSeq_c {g : Nat} {lb : Array Value} {w : World} {yv : List Value} (eg : ∀ args w, (callFunc g args).run Try.prog w = .ok (.enter g args) w) (hit : IterC g lb w yv) (h1 : ∀ v ∈ yv, ∃ A n c, v = Value.slice A n c) (hl : yv.length ≤ 1000000) :
    Calls Try.prog 170 #[.slice none 0 0, .func (.func g) #[] lb] w fun e w' => ∃ v, e = .returned v ∧ w'.ownsRow (w.heap.size + 1) 23 1 v yv.length yv ∧ Below w.heap.size w w' := by
  have HIT := Aside0.mk hit; have H1 := Aside0.mk h1; clear hit h1; refine (callsIn_wide (n := 9)).1 ?_; refine callsIn_of_wp_marks Try.func170 rfl trivial ?_ rfl; simp only [Try.ntmps170, List.size_toArray, List.length_cons, List.length_nil, Nat.reduceAdd, Nat.reduceSub, Array.replicate_succ, Array.replicate_zero, List.push_toArray, List.append_toArray, List.nil_append, List.cons_append]
  gi_wp2
  obtain ⟨W0, hW0⟩ : ∃ W0, w.alloc (.cells #[.slice none 0 0] 22) = W0 := ⟨_, rfl⟩
  rw [hW0]
  have hb0 : Below w.heap.size w W0 := by rw [← hW0]; exact (Below.refl _ _).alloc (Nat.le_refl _) _
  have hx0 : Bx W0 w.heap.size (.slice none 0 0) := by rw [← hW0]; exact Bx.new _ _ _
  have hz0 : W0.heap.size = w.heap.size + 1 := by rw [← hW0]; simp
  have HB0 := Aside0.mk hb0; have HZ0 := Aside0.mk hz0
  have h0 : AI w w.heap.size yv 0 W0 := ⟨_, hx0, World.ownsRow_nil _ _ _ _, hb0⟩
  have H0 := Aside0.mk h0; clear hW0 hb0 hx0 hz0 h0; refine range_all (by omega) rfl eg (AI w w.heap.size yv) 0 (fun k => k = yv.length) (fun k vs k' => k < yv.length ∧ vs = #[yv.getD k undef] ∧ k' = k + 1) ?_ H0.out ?_ ?_ ?_ ?_
  · exact AI.own _ _ _ (by rw [HZ0.out]; omega) (Nat.le_refl _)
  · rintro k vs k' ⟨_, rfl, _⟩; rfl
  · intro l W1 J hs hJI hJ hY hj0
    refine (HIT.out l W1 J (fun k W h => (hJI k W h).choose_spec.2.2) (fun k W W' h hb => hJ k k W W' h ((keeps_below hb).from _) ((hJI k W h).below hb (Nat.le_refl _))) (fun k W v hv h => ?_) hj0).mono (fun e W' h => ⟨h.1, yv.length, rfl, h.2⟩); have hlt := (List.getElem?_eq_some_iff.1 hv).1
    have hv' : v = yv.getD k undef := by rw [List.getD_eq_getElem?_getD, hv]; rfl
    rw [hv']; exact hY k _ _ W ⟨hlt, rfl, rfl⟩ h
  · rintro l k vs k' W ⟨hk, rfl, rfl⟩ hI
    have HI := Aside0.mk hI; clear hI
    obtain ⟨y, hy⟩ : ∃ y, y = yv.getD k undef := ⟨_, rfl⟩
    rw [← hy]; obtain ⟨yA, yn, yc, hy1⟩ := H1.out y (by rw [hy, List.getD_eq_getElem?_getD, List.getElem?_eq_getElem hk]; exact List.getElem_mem hk)
    have hyt : yv.take (k + 1) = yv.take k ++ [y] := by rw [List.take_succ_eq_append_getElem hk, hy, List.getD_eq_getElem?_getD, List.getElem?_eq_getElem hk]; rfl
    have HYT := Aside0.mk hyt; subst hy1; clear hy hyt
    gi_wp2
    refine ⟨KeepsFrom.refl _ _, HI.out, ?_⟩; clear HI; rintro W2 ⟨v, hx, ho, hb⟩; have e2 := hx.1; have f2 := hx.2; have hlt := hx.lt; have HX := Aside0.mk hx; have HB := Aside0.mk hb; have HOA := Aside0.mk (own_below ho ((Below.refl _ W2).alloc (Nat.le_refl _) (.cells #[.slice yA yn yc] 23))); have HO := Aside0.mk ho; obtain ⟨i0, hi0, hz0, hz1, hz2⟩ := info_parts (P := Try.prog) (e := 23) (z := .slice none 0 0) (size := 1) (bytes := 24) (by kernel_rfl); obtain ⟨vA, vc, rfl⟩ := own_len ho; clear hx hb ho
    gi_wp2_with (gi_at_builtin; refine wpListIn_append_own _ rfl _ _ 22 rfl (w.heap.size + 1) 23 i0 (.slice none 0 0) 1 24 (by kernel_rfl) hi0 hz0 hz1 hz2 rfl (by decide) _ _ _ rfl HOA.out ⟨W2.heap.size, 0, none⟩ 1 1 [.slice yA yn yc] rfl ?qc1 ?qc2 ?qc3 ?qc4 ?qc5 ?qc6 ?_)
    case qc1 => rfl
    case qc2 =>
      intro j u hj; have hj1 := (List.getElem?_eq_some_iff.1 hj).1
      obtain rfl : j = 0 := by simpa using hj1
      simp only [List.getElem?_cons_zero, Option.some.injEq] at hj; subst hj; exact (Bx.new W2 (.slice yA yn yc) 23).1
    case qc3 => intro u hu; simp only [List.mem_singleton] at hu; subst hu; rfl
    case qc4 => unfold maxLen; omega
    case qc5 => omega
    case qc6 => simp; omega
    intro v' w9 hown hgrow hnil; clear hnil; obtain ⟨vA', vc', rfl⟩ := own_len hown; have hch : Chg (fun b => (Value.slice vA k vc).ownBlock = some b) (W2.alloc (.cells #[.slice yA yn yc] 23)) w9 := (Chg.refl _ _).then_grown hgrow (fun b e => .inl e); have hx9 := (HX.out.alloc (.cells #[.slice yA yn yc] 23)).chg hch (fun e => by have := own_base HO.out _ e; omega); have e9 := hx9.1; have f9 := hx9.2; have HX9 := Aside0.mk hx9; have HW9 := Aside0.mk hown; have hk9 : KeepsOthers W2 w9 := (keeps_below ((Below.refl _ W2).alloc (Nat.le_refl _) (.cells #[.slice yA yn yc] 23))).trans (keeps_own HOA.out hgrow)
    have hb9 : Below w.heap.size w w9 := by
      refine (HB.out.alloc HB.out.size (.cells #[.slice yA yn yc] 23)).grown hgrow (by simp; omega) (fun b e => by have := own_base HO.out _ e; omega)
    have HK9 := Aside0.mk hk9; have HB9 := Aside0.mk hb9; clear hown hgrow e2 f2 hi0 hz0 hz1 hz2 i0 hch hx9 hk9 hb9
    gi_wp2
    refine ⟨(HK9.out.trans (KeepsOthers.setCell _ _ _)).from _, _, HX9.out.set _, ?_, HB9.out.setCell (Nat.le_refl _) _⟩; rw [HYT.out]; exact own_far HW9.out (Nat.lt_succ_self _) _
  · rintro D k W hD rfl ⟨v, hx, ho, hb⟩ hK
    have e2 := hx.1; have HO := Aside0.mk ho; have HB := Aside0.mk hb
    have hDw : w.heap.size ≤ D := by have := HZ0.out; omega
    clear hx ho hb
    gi_wp2
    refine ⟨by simp, .inl ⟨_, _, rfl, run_takeDeferred hK, ?_⟩⟩; refine ⟨v, by simp [results, Try.results170, go_sem], v, rfl, ?_, HB.out.grown (grownBy_putObj' W D (.deferred none)) HB.out.size (fun b e => by cases e; exact hDw)⟩; have := own_nocell HO.out (grownBy_putObj' W D (.deferred none)) (fun r e => by cases e; exact ⟨_, hK, rfl⟩); rw [List.take_length] at this; exact this
theorem collect_c {g : Nat} {lb : Array Value} {w : World} {yv : List Value} (eg : ∀ args w, (callFunc g args).run Try.prog w = .ok (.enter g args) w) (hit : IterC g lb w yv) (h1 : ∀ v ∈ yv, ∃ A n c, v = Value.slice A n c) (hl : yv.length ≤ 1000000) :
    Calls Try.prog 93 #[.func (.func g) #[] lb] w fun e w' => ∃ v, e = .returned v ∧ w'.ownsRow (w.heap.size + 1) 23 1 v yv.length yv ∧ Below w.heap.size w w' := by
  have HC := Aside0.mk (appendSeq_c eg hit h1 hl); clear eg hit h1
  go_enter Try.func93, Try.ntmps93
  go_wp2_with (go_at_call 170; refine HC.out.mono ?_; rintro e w' ⟨v, rfl, h1, h2⟩; have H1 := Aside0.mk h1; have H2 := Aside0.mk h2; clear h1 h2)
  go_ret
  exact ⟨_, rfl, H1.out, H2.out⟩
theorem C_of_own {W : World} {base : Nat} {v : Value} {yv : List Value} {rows : List (List Int)} (ho : W.ownsRow base 23 1 v yv.length yv) (hl : yv.length = rows.length) (hb : rows.length ≤ 1000000) (hr : ∀ i, i < rows.length → ∃ A c, yv[i]? = some (.slice A (rows.getD i []).length c) ∧ (rows.getD i []).length ≤ c ∧ Kd.C (Kd.int .i64) W A (rows.getD i []).length (rows.getD i [])) :
    ∃ A c, v = .slice A rows.length c ∧ rows.length ≤ c ∧ Kd.C (Kd.slice 3 (Kd.int .i64)) W A rows.length rows := by
  rcases ho.2 with ⟨rfl, h0⟩ | ⟨g, cap, cur, rfl, hg, hh, hc1, hc2, hc3, hc4⟩
  · exact ⟨none, 0, by rw [← hl, h0], by omega, rfl, by omega, fun h => by omega⟩
  · rw [hl] at hc1
    refine ⟨some ⟨g, 0, none⟩, cap, by rw [hl], hc1, rfl, by omega, fun h => ⟨⟨g, 0, none⟩, rfl, fun j p hj => ?_⟩⟩; have hjl := (List.getElem?_eq_some_iff.1 hj).1; obtain ⟨A, c, h1, h2, h3⟩ := hr j hjl
    have hp : rows.getD j [] = p := by rw [List.getD_eq_getElem?_getD, hj]; rfl
    rw [hp] at h1 h2 h3; refine ⟨[.slice A p.length c], rfl, ⟨A, c, rfl, h2, h3⟩, fun i u hu => ?_⟩; have hi1 := (List.getElem?_eq_some_iff.1 hu).1
    obtain rfl : i = 0 := by simpa using hi1
    simp only [List.getElem?_cons_zero, Option.some.injEq] at hu; subst hu; have := ho.cells (g := g) rfl j _ h1
    show W.cell? (Addr.add ⟨g, 0, none⟩ (j * 1 + 0)) = _
    rw [Nat.mul_one, Nat.add_zero]; exact this
end Go.Proofs.Ytdbamhckgaoibaa.P
namespace Go.Proofs.Ytdbamhckgaoibaa.P
open Go.RowKit Go.Proofs.YtdbamhckgaoibaaW.PrintWords Go.Proofs.YtdbamhckgaoibaaW.PrintLast Go.Proofs.YtdbamhckgaoibaaW.PrintMore
set_option linter.unusedVariables false
set_option linter.unusedSimpArgs false
def sumQ (f : Nat → Int) : Nat → Int
  | 0 => 0
  | k + 1 => (sumQ f k + f k) % 1073741789
theorem wrap_next {j : Nat} (h : j < 9223372036854775807) : wrap64 ((j : Int) + 1) = ((j + 1 : Nat) : Int) := by unfold wrap64; omega
set_option maxHeartbeats 1000000 in
theorem sumInt_c {g : Nat} (eg : ∀ args w, (callFunc g args).run Try.prog w = .ok (.enter g args) w) (p : Addr) (f : Nat → Int) (A0 : Option Addr) (c0 : Nat) (l : List Int) (w : World) (hr : Kd.C (Kd.int .i64) w A0 l.length l)
    (hg : ∀ (i : Nat) (W : World), i < l.length → Below w.heap.size w W → Calls Try.prog g #[.int .i64 (i : Int), .int .i64 (rd l (i : Int)), .pointer (some p)] W fun e w' => e = .returned (.int .i64 (f i)) ∧ Drawn0 W w') :
    Calls Try.prog 164 #[.slice A0 l.length c0, .func (.func g) #[] #[.pointer (some p)]] w fun e w' => e = .returned (.int .i64 (sumQ f l.length)) ∧ Below w.heap.size w w' := by
  have HG := Aside0.mk hg; have HR := Aside0.mk hr; have hlen : l.length ≤ 9223372036854775807 := hr.2.1; clear hr hg
  go_enter Try.func164, Try.ntmps164
  go_wp2
  go_loopg [4, 9] l.length (fun gk v4 v9 w' => ∃ j : Nat, j ≤ l.length ∧ gk = l.length - j ∧ v9 = .int .i64 (j : Int) ∧ v4 = .int .i64 (sumQ f j) ∧ Aside0 (Below w.heap.size w w'))
  case atStart => exact ⟨0, Nat.zero_le _, rfl, rfl, rfl, ⟨by first | exact Below.refl _ _ | exact pw_below_drewN (Below.refl _ _) _⟩⟩
  case round =>
    obtain ⟨j, hj, rfl, rfl, rfl, HB⟩ := hrel
    by_cases hlt : j < l.length
    · have c1 : decide ((j : Int) < (l.length : Int)) = true := decide_eq_true (by omega)
      have c2 : decide (j < l.length) = true := decide_eq_true hlt
      have c4 : (0 : Int) ≤ (j : Int) := by omega
      obtain ⟨ad, e, hx⟩ := Kd.at_int HR.out (j : Int) (by omega) (by omega); cases e; rw [Int.toNat_natCast] at hx; have hcall := HG.out j wr hlt HB.out; replace hx := (HB.out.cell (World.block_lt_of_cell? w _ hx)).trans hx; generalize rd l (j : Int) = x at hx hcall; have hS : sumQ f (j + 1) = (sumQ f j + f j) % 1073741789 := rfl; generalize f j = fj at hcall hS; have HS := Aside0.mk hS; have HC := Aside0.mk hcall; have HL := Aside0.mk hlen; clear hS hcall HG hlen; go_wp2_with (go_at_call 36; refine (field_Add_m.calls _ _ _ _ rfl).mono ?_; rintro e w2 ⟨rfl, hb2⟩; have HB2 := Aside0.mk hb2; clear hb2); refine HC.out.mono ?_; rintro e w1 ⟨rfl, ⟨nd, rfl⟩⟩; go_wp2_with (go_at_call 36; refine (field_Add_m.calls _ _ _ _ rfl).mono ?_; rintro e w2 ⟨rfl, hb2⟩; have HB2 := Aside0.mk (below_then (pw_below_drewN HB.out nd) (by exact HB.out.size) hb2); clear hb2)
      go_roundg (l.length - (j + 1))
      case measure => omega
      case rel =>
        have := HL.out; exact ⟨j + 1, by omega, rfl, by rw [wrap_next (by omega)], by rw [HS.out], HB2⟩
    · obtain rfl : j = l.length := by omega
      have c1 : decide ((l.length : Int) < (l.length : Int)) = false := decide_eq_false (by omega); go_wp2
      go_ret
      exact ⟨rfl, HB.out⟩
set_option maxHeartbeats 1000000 in
theorem times1_c (B : Nat) (A1 : Option Addr) (c1 : Nat) (b : List Int) (i : Nat) (x : Int) (W : World) (hB : W.cell? ⟨B, 0, none⟩ = some (.slice A1 b.length c1)) (hr : Kd.C (Kd.int .i64) W A1 b.length b) (hi : i < b.length) :
    Calls Try.prog 165 #[.int .i64 (i : Int), .int .i64 x, .pointer (some ⟨B, 0, none⟩)] W fun e w' => e = .returned (.int .i64 (x * b.getD i 0 % 1073741789)) ∧ Drawn0 W w' := by
  obtain ⟨ad, e, hx⟩ := Kd.at_int hr (i : Int) (by omega) (by omega); cases e; rw [Int.toNat_natCast] at hx
  have e : rd b (i : Int) = b.getD i 0 := by unfold rd; rw [Int.toNat_natCast]
  rw [e] at hx; generalize b.getD i 0 = y at hx; have c2 : decide (i < b.length) = true := decide_eq_true hi
  have c3 : (i : Int) < (b.length : Int) := by omega
  have c4 : (0 : Int) ≤ (i : Int) := by omega
  clear e hr
  go_enter Try.func165, Try.ntmps165
  go_wp2_with (go_at_call 65; refine (mul_c _ _ _).mono ?_; rintro e w' ⟨rfl, ⟨nd, rfl⟩⟩)
  go_ret
  exact ⟨rfl, by repeat (first | exact Drawn0.refl _ | apply Drawn0.step)⟩
theorem dot_take : ∀ (a b : List Int) (k : Nat), k < a.length → k < b.length → Sig.dot (a.take (k + 1)) b = Sig.dot (a.take k) b + a.getD k 0 * b.getD k 0
  | [], _, _, h, _ => by simp at h
  | _ :: _, [], _, _, h => by simp at h
  | x :: a, y :: b, 0, _, _ => by simp [Sig.dot]
  | x :: a, y :: b, k + 1, h1, h2 => by
    have := dot_take a b k (by simpa using h1) (by simpa using h2); rw [List.take_succ_cons, List.take_succ_cons, Sig.dot, Sig.dot, this]
    simp
    omega
theorem sumQ_dot (a b : List Int) (h : a.length ≤ b.length) : ∀ k, k ≤ a.length → sumQ (fun i => a.getD i 0 * b.getD i 0 % 1073741789) k = Sig.dot (a.take k) b % 1073741789
  | 0, _ => by rw [List.take_zero]; rfl
  | k + 1, hk => by
    unfold sumQ; rw [sumQ_dot a b h k (by omega), dot_take a b k (by omega) (by omega)]; omega
theorem times_c (A0 : Option Addr) (c0 : Nat) (a : List Int) (A1 : Option Addr) (c1 : Nat) (b : List Int) (w : World) (hr0 : Kd.C (Kd.int .i64) w A0 a.length a) (hr1 : Kd.C (Kd.int .i64) w A1 b.length b) (hl : a.length ≤ b.length) :
    Calls Try.prog 86 #[.slice A0 a.length c0, .slice A1 b.length c1] w fun e w' => e = .returned (.int .i64 (Sig.dot a b % 1073741789)) ∧ Below w.heap.size w w' := by
  have hs := sumQ_dot a b hl a.length (Nat.le_refl _); rw [List.take_length] at hs; rw [← hs]; have hb : Below w.heap.size w (w.alloc (.cells #[.slice A1 b.length c1] 23)) := (Below.refl _ _).alloc (Nat.le_refl _) _; have hbx := Bx.new w (.slice A1 b.length c1) 23
  have HC := Aside0.mk (sumInt_c (g := 165) (fun args w => enters_ Try.func165 (by kernel_rfl) rfl args w) ⟨w.heap.size, 0, none⟩ (fun i => a.getD i 0 * b.getD i 0 % 1073741789) A0 c0 a (w.alloc (.cells #[.slice A1 b.length c1] 23)) (Kd.C_below hr0 hb) (fun i W hi hW => by
    have hrd : rd a (i : Int) = a.getD i 0 := by unfold rd; rw [Int.toNat_natCast]
    rw [hrd]
    exact times1_c w.heap.size A1 c1 b i (a.getD i 0) W (hbx.below hW).1 (Kd.C_below (Kd.C_below hr1 hb) hW) (by omega)))
  have HB := Aside0.mk hb; clear hr0 hr1 hs hbx hb; generalize sumQ (fun i => a.getD i 0 * b.getD i 0 % 1073741789) a.length = s at HC ⊢
  have hmf : ∀ (fn : Fn) (first cap : Array Value) (w : World), (Instr.makeFunc fn first cap).run Try.prog w = .ok (.func fn first cap) w := fun _ _ _ _ => rfl
  go_enter Try.func86, Try.ntmps86
  go_wp2_with (go_at_call 164; refine HC.out.mono ?_; rintro e w' ⟨rfl, hb2⟩; have HB2 := Aside0.mk (below_then HB.out (by simp) hb2); clear hb2)
  go_ret
  exact ⟨rfl, HB2.out⟩
def dealing_times.f (l0 l1 : List Int) : Option Int := if l0.length ≤ l1.length then some (Sig.dot l0 l1 % 1073741789) else none
theorem dealing_times.calls (A0 : Option Addr) (c0 : Nat) (l0 : List Int) (A1 : Option Addr) (c1 : Nat) (l1 : List Int) (r : Int) (w : World) (hr0 : Kd.C (Kd.int .i64) w A0 l0.length l0) (hc0 : l0.length ≤ c0) (hr1 : Kd.C (Kd.int .i64) w A1 l1.length l1) (hc1 : l1.length ≤ c1) (h : dealing_times.f l0 l1 = some r) :
    Calls Try.prog 86 #[.slice A0 l0.length c0, .slice A1 l1.length c1] w fun e w' => e = .returned (.int .i64 r) ∧ Below w.heap.size w w' := by
  unfold dealing_times.f at h
  split at h
  · cases h; exact times_c A0 c0 l0 A1 c1 l1 w hr0 hr1 (by assumption)
  · cases h
end Go.Proofs.Ytdbamhckgaoibaa.P
namespace Go.Proofs.Ytdbamhckgaoibaa.P
open Go.RowKit Go.Proofs.YtdbamhckgaoibaaW.PrintWords Go.Proofs.YtdbamhckgaoibaaW.PrintLast Go.Proofs.YtdbamhckgaoibaaW.PrintMore
attribute [local go_sem] Oper.semAt_some
set_option linter.unusedVariables false
set_option linter.unusedSimpArgs false
theorem wrap_nextB {j : Nat} (h : j < 9223372036854775807) : wrap64 ((j : Int) + 1) = ((j + 1 : Nat) : Int) := by unfold wrap64; omega
end Go.Proofs.Ytdbamhckgaoibaa.P
namespace Go.Proofs.Ytdbamhckgaoibaa.P
open Go.RowKit Go.Proofs.YtdbamhckgaoibaaW.PrintWords Go.Proofs.YtdbamhckgaoibaaW.PrintLast Go.Proofs.YtdbamhckgaoibaaW.PrintMore
set_option linter.unusedVariables false
set_option linter.unusedSimpArgs false
def inQ (x : Int) : Bool := decide (0 ≤ x) && decide (x < 1073741789)
def rightS (n : Nat) (s : S38) : Bool := decide (0 ≤ s.f0) && decide (s.f0 < n) && inQ s.f1
def colsP (rows : List (List Int)) : Nat := if rows.length = 0 then 1 else (rows.getD 0 []).length
theorem cols_math {rows : List (List Int)} {owners : List Int} : dealing_columns.f rows owners = some (colsP rows : Int) := by
  unfold dealing_columns.f colsP
  by_cases h : rows.length = 0
  · rw [if_pos (by omega), if_pos h]; rfl
  · rw [if_neg (by omega), if_neg h, if_pos (by omega), rdL0]
end Go.Proofs.Ytdbamhckgaoibaa.P
namespace Go.Proofs.Ytdbamhckgaoibaa.P
open Go.RowKit Go.Proofs.YtdbamhckgaoibaaW.PrintWords Go.Proofs.YtdbamhckgaoibaaW.PrintLast Go.Proofs.YtdbamhckgaoibaaW.PrintMore
def shareQ (rows : List (List Int)) (s : List Int) (i : Nat) : S38 := ⟨(i : Int), Sig.dot (rows.getD i []) s % 1073741789⟩
def sharesQ (rows : List (List Int)) (s : List Int) : List S38 := (List.range rows.length).map (shareQ rows s)
def commitQ (n : Int) : Int := (4 : Int) ^ (n % 1073741789).toNat % 2147483579
theorem pow_four (n : Int) : group_Pow.f 4 n = some (commitQ n, 0) := by
  unfold group_Pow.f
  rw [el_four]; rfl
theorem commitQ_el (a : Int) : isEl (commitQ a) = true := el_pow el_four _
theorem commitQ_nat {a : Int} {m : Nat} (h : (a % 1073741789).toNat = m % ordQ) : commitQ a = 4 ^ m % 2147483579 := by
  unfold commitQ; rw [h, ← el_pow_mod el_four]
theorem commitQ_add (a b : Int) : commitQ a * commitQ b % 2147483579 = commitQ (a + b) := by
  rw [commitQ_nat (a := a + b) (m := (a % 1073741789).toNat + (b % 1073741789).toNat) (by unfold ordQ; omega)]; unfold commitQ; rw [← Int.mul_emod, ← Int.pow_add]
theorem nat_mul_mod (a b : Int) : (a * b % 1073741789).toNat = (a % 1073741789).toNat * (b % 1073741789).toNat % ordQ := by
  have h1 : ((a % 1073741789).toNat : Int) = a % 1073741789 := by omega
  have h2 : ((b % 1073741789).toNat : Int) = b % 1073741789 := by omega
  have h3 : (((a % 1073741789).toNat * (b % 1073741789).toNat % ordQ : Nat) : Int) = a * b % 1073741789 := by
    unfold ordQ
    rw [Int.natCast_emod, Int.natCast_mul, h1, h2, Int.mul_emod a b]; rfl
  omega
theorem commitQ_pow (a e : Int) : commitQ a ^ (e % 1073741789).toNat % 2147483579 = commitQ (a * e) := by
  rw [commitQ_nat (a := a * e) (nat_mul_mod a e)]; unfold commitQ; rw [Sig.pow_emod, ← Int.pow_mul]
theorem commitQ_zero : commitQ 0 = 1 := by unfold commitQ; rfl
theorem pow_el {c : Int} (h : isEl c = true) (e : Int) : group_Pow.f c e = some (c ^ (e % 1073741789).toNat % 2147483579, 0) := by
  unfold group_Pow.f
  rw [h]; rfl
theorem valid_math (a : Int) : group_Valid.f a = some (isEl a) := by first | rfl | (unfold group_Valid.f; rfl)
theorem el_range {a : Int} (h : isEl a = true) : 1 ≤ a ∧ a < 2147483579 := ⟨((isEl_iff a).1 h).1, ((isEl_iff a).1 h).2.1⟩
theorem mul_els {a b : Int} (ha : isEl a = true) (hb : isEl b = true) : group_Mul.f a b = some (a * b % 2147483579, 0) := by
  have h1 := el_range ha; have h2 := el_range hb; have hr := mulP_range (x := a) (y := b) ⟨by omega, h1.2⟩ ⟨by omega, h2.2⟩; unfold group_Mul.f; rw [valid_math, valid_math, ha, hb]; simp only [Option.bind_some, if_true]; rw [wrap_small hr.1 (by omega), tmod_small (m := 2147483579) hr.1]
end Go.Proofs.Ytdbamhckgaoibaa.P
namespace Go.Proofs.Ytdbamhckgaoibaa.P
open Go.RowKit Go.Proofs.YtdbamhckgaoibaaW.PrintWords Go.Proofs.YtdbamhckgaoibaaW.PrintLast Go.Proofs.YtdbamhckgaoibaaW.PrintMore
set_option linter.unusedVariables false
theorem inQ_not (x : Int) : (!([x] : List Int).any outQ) = inQ x := by
  rw [Bool.eq_iff_iff]
  simp [outQ, inQ]
theorem ret_i {a b : Int} (h : b = a) : Ending.returned (.int .i64 a) = .returned (.int .i64 b) := by rw [h]
theorem ret_ii {a b : Int} {p : Int × Int} (h : p = (a, b)) : Ending.returned (.tuple #[.int .i64 a, .int .i64 b]) = .returned (.tuple #[.int .i64 p.1, .int .i64 p.2]) := by rw [h]
theorem ret_bi {a : Bool} {b : Int} {p : Bool × Int} (h : p = (a, b)) : Ending.returned (.tuple #[.bool a, .int .i64 b]) = .returned (.tuple #[.bool p.1, .int .i64 p.2]) := by rw [h]
theorem ret_b {a b : Bool} (h : b = a) : Ending.returned (.bool a) = .returned (.bool b) := by rw [h]
def checkD (rows : List (List Int)) (owners cm : List Int) : Int := if checkP rows owners = 0 then (if cm.length = colsP rows ∧ cm.any noEl = false then 0 else 340) else checkP rows owners
set_option maxHeartbeats 1000000 in
theorem dcheck_w {A0 A1 A2 : Option Addr} {c0 c1 c2 : Nat} {rows : List (List Int)} {owners : List Int} {cm : List Int} {w : World} (h0 : Sl (Kd.slice 3 (Kd.int .i64)) w A0 c0 rows) (h1 : Sl (Kd.int .i64) w A1 c1 owners) (h2 : Sl (Kd.int .i64) w A2 c2 cm) :
    Calls Try.prog 100 #[.agg #[.slice A0 rows.length c0, .slice A1 owners.length c1], .slice A2 cm.length c2] w fun e w' => e = .returned (.int .i64 (checkD rows owners cm)) ∧ Below w.heap.size w w' := by
  have H_rows := Aside0.mk h0; have H_own := Aside0.mk h1; have H_cm := Aside0.mk h2; have HB := Aside0.mk (Below.refl w.heap.size w); clear h0 h1 h2
  obtain ⟨t, ht⟩ : ∃ t, t = checkP rows owners := ⟨_, rfl⟩
  have HD : Aside0 (checkD rows owners cm = if t = 0 then (if cm.length = colsP rows ∧ cm.any noEl = false then 0 else 340) else t) := ⟨by rw [ht]; rfl⟩
  have HK : Aside0 (∀ W, Sl (Kd.slice 3 (Kd.int .i64)) W A0 c0 rows → Sl (Kd.int .i64) W A1 c1 owners → Calls Try.prog 82 #[.agg #[.slice A0 rows.length c0, .slice A1 owners.length c1]] W fun e w' => e = .returned (.int .i64 t) ∧ Below W.heap.size W w') := ⟨fun W g0 g1 => by rw [ht]; exact program_Check.calls 66 A0 c0 rows A1 c1 owners _ W g0.rd g0.le g1.rd g1.le (check_math rows owners 66 (Nat.le_refl _))⟩
  clear ht
  rcases Decidable.em (t = 0) with h | h
  · skip
    subst h
    go_enter Try.func100, Try.ntmps100
    go_wp2_with fail
    obtain ⟨w1, hw⟩ : ∃ W_, W_ = w.alloc (.cells #[.slice A0 rows.length c0, .slice A1 owners.length c1] 25) := ⟨_, rfl⟩
    rw [← hw]
    have hb : Below w.heap.size w w1 := by rw [hw]; exact below_alloc1 _ _
    have hz : w.heap.size = w.heap.size := rfl
    have hs : w1.heap.size = w.heap.size + 1 := by rw [hw, ← hz]; simp
    replace H_rows := Aside0.mk (H_rows.out.below hb); replace H_own := Aside0.mk (H_own.out.below hb); replace H_cm := Aside0.mk (H_cm.out.below hb); replace HB := Aside0.mk (below_then HB.out HB.out.size hb); have H_two0 := Aside0.mk (⟨by rw [hw, ← hz]; simp only [World.cell?]; rw [World.alloc_heap_new]; rfl, by rw [hs]; omega⟩ : w1.cell? ⟨w.heap.size, 0, none⟩ = some (.slice A0 rows.length c0) ∧ w.heap.size < w1.heap.size); have H_two1 := Aside0.mk (⟨by rw [hw, ← hz]; simp only [World.cell?]; rw [World.alloc_heap_new]; rfl, by rw [hs]; omega⟩ : w1.cell? ⟨w.heap.size, 1, none⟩ = some (.slice A1 owners.length c1) ∧ w.heap.size < w1.heap.size); clear hw hb hz
    have HZ := Aside0.mk hs; clear hs
    refine (HK.out _ H_rows.out H_own.out).mono ?_; rintro e w2 ⟨rfl, hb⟩; replace H_rows := Aside0.mk (H_rows.out.below hb); replace H_own := Aside0.mk (H_own.out.below hb); replace H_cm := Aside0.mk (H_cm.out.below hb); replace H_two0 := Aside0.mk (cell_on H_two0.out hb); replace H_two1 := Aside0.mk (cell_on H_two1.out hb); replace HB := Aside0.mk (below_then HB.out HB.out.size hb); clear hb; have HC := Aside0.mk (fun W (g0 : Sl (Kd.slice 3 (Kd.int .i64)) W A0 c0 rows) (g1 : Sl (Kd.int .i64) W A1 c1 owners) => dealing_columns.calls A0 c0 rows A1 c1 owners (colsP rows : Int) W g0.rd g0.le g1.rd g1.le cols_math); generalize colsP rows = n at HC HD
    by_cases hn : cm.length = n
    · skip
      have q1 : ((cm.length : Int) == (n : Int)) = true := beq_iff_eq.mpr (by omega); have q2 : ((cm.length : Int) != (n : Int)) = false := bne_eq_false_iff_eq.mpr (by omega)
      have HN := Aside0.mk hn; clear hn
      have x_two0 := H_two0.out.1; have x_two1 := H_two1.out.1; go_wp2_with fail; clear x_two0 x_two1; refine (HC.out _ H_rows.out H_own.out).mono ?_; rintro e w3 ⟨rfl, hb⟩; replace H_rows := Aside0.mk (H_rows.out.below hb); replace H_own := Aside0.mk (H_own.out.below hb); replace H_cm := Aside0.mk (H_cm.out.below hb); replace H_two0 := Aside0.mk (cell_on H_two0.out hb); replace H_two1 := Aside0.mk (cell_on H_two1.out hb); replace HB := Aside0.mk (below_then HB.out HB.out.size hb); clear hb; have HE := Aside0.mk (contains_noEl.calls A2 c2 cm (cm.any noEl) w3 H_cm.out.rd H_cm.out.le rfl); generalize cm.any noEl = b at HE HD; go_wp2_with fail; refine HE.out.mono ?_; rintro e w9 ⟨rfl, hd⟩; have HB := Aside0.mk (below_then HB.out HB.out.size hd.below); clear hd HE
      cases b with
      | true => go_wp2; go_ret; exact ⟨ret_i (by have h_ := HD.out; simp [HN.out] at h_; exact h_), HB.out⟩
      | false => go_wp2; go_ret; exact ⟨ret_i (by have h_ := HD.out; simp [HN.out] at h_; exact h_), HB.out⟩
    · skip
      have q1 : ((cm.length : Int) == (n : Int)) = false := beq_eq_false_iff_ne.mpr (by omega); have q2 : ((cm.length : Int) != (n : Int)) = true := bne_iff_ne.mpr (by omega); have HN := Aside0.mk hn; have x_two0 := H_two0.out.1; have x_two1 := H_two1.out.1; go_wp2_with fail; clear x_two0 x_two1; refine (HC.out _ H_rows.out H_own.out).mono ?_; rintro e w3 ⟨rfl, hb⟩; replace H_rows := Aside0.mk (H_rows.out.below hb); replace H_own := Aside0.mk (H_own.out.below hb); replace H_cm := Aside0.mk (H_cm.out.below hb); replace H_two0 := Aside0.mk (cell_on H_two0.out hb); replace H_two1 := Aside0.mk (cell_on H_two1.out hb); replace HB := Aside0.mk (below_then HB.out HB.out.size hb); clear hb; go_wp2
      go_ret
      exact ⟨ret_i (by have h_ := HD.out; simp [HN.out] at h_; exact h_), HB.out⟩
  · skip
    have q1 : (t == 0) = false := beq_eq_false_iff_ne.mpr h; have q2 : (t != 0) = true := bne_iff_ne.mpr h; have HN := Aside0.mk h
    go_enter Try.func100, Try.ntmps100
    go_wp2_with fail
    obtain ⟨w1, hw⟩ : ∃ W_, W_ = w.alloc (.cells #[.slice A0 rows.length c0, .slice A1 owners.length c1] 25) := ⟨_, rfl⟩
    rw [← hw]
    have hb : Below w.heap.size w w1 := by rw [hw]; exact below_alloc1 _ _
    have hz : w.heap.size = w.heap.size := rfl
    have hs : w1.heap.size = w.heap.size + 1 := by rw [hw, ← hz]; simp
    replace H_rows := Aside0.mk (H_rows.out.below hb); replace H_own := Aside0.mk (H_own.out.below hb); replace H_cm := Aside0.mk (H_cm.out.below hb); replace HB := Aside0.mk (below_then HB.out HB.out.size hb); have H_two0 := Aside0.mk (⟨by rw [hw, ← hz]; simp only [World.cell?]; rw [World.alloc_heap_new]; rfl, by rw [hs]; omega⟩ : w1.cell? ⟨w.heap.size, 0, none⟩ = some (.slice A0 rows.length c0) ∧ w.heap.size < w1.heap.size); have H_two1 := Aside0.mk (⟨by rw [hw, ← hz]; simp only [World.cell?]; rw [World.alloc_heap_new]; rfl, by rw [hs]; omega⟩ : w1.cell? ⟨w.heap.size, 1, none⟩ = some (.slice A1 owners.length c1) ∧ w.heap.size < w1.heap.size); clear hw hb hz
    have HZ := Aside0.mk hs; clear hs
    refine (HK.out _ H_rows.out H_own.out).mono ?_; rintro e w2 ⟨rfl, hb⟩; replace H_rows := Aside0.mk (H_rows.out.below hb); replace H_own := Aside0.mk (H_own.out.below hb); replace H_cm := Aside0.mk (H_cm.out.below hb); replace H_two0 := Aside0.mk (cell_on H_two0.out hb); replace H_two1 := Aside0.mk (cell_on H_two1.out hb); replace HB := Aside0.mk (below_then HB.out HB.out.size hb); clear hb; go_wp2
    go_ret
    exact ⟨ret_i (by rw [HD.out, if_neg HN.out]), HB.out⟩
set_option maxHeartbeats 1000000 in
theorem right_w {A0 A1 : Option Addr} {c0 c1 : Nat} {rows : List (List Int)} {owners : List Int} {f0 f1 : Int} {w : World} (h0 : Sl (Kd.slice 3 (Kd.int .i64)) w A0 c0 rows) (h1 : Sl (Kd.int .i64) w A1 c1 owners) :
    Calls Try.prog 91 #[.agg #[.slice A0 rows.length c0, .slice A1 owners.length c1], .agg #[.int .i64 f0, .int .i64 f1]] w fun e w' => e = .returned (.bool (rightS rows.length ⟨f0, f1⟩)) ∧ Below w.heap.size w w' := by
  by_cases g0 : 0 ≤ f0
  · by_cases g1 : f0 < (rows.length : Int)
    · have HR : Aside0 (rightS rows.length ⟨f0, f1⟩ = !([f1] : List Int).any outQ) := ⟨by unfold rightS; rw [inQ_not, decide_eq_true g0, decide_eq_true g1]; rfl⟩
      have H_rows := Aside0.mk h0; clear h0 h1
      go_enter Try.func91, Try.ntmps91
      go_wp2_with fail; have HB := Aside0.mk (Below.refl w.heap.size w)
      obtain ⟨w1, hw⟩ : ∃ W_, W_ = w.alloc (.cells #[.slice A0 rows.length c0, .slice A1 owners.length c1] 25) := ⟨_, rfl⟩
      rw [← hw]
      have hb : Below w.heap.size w w1 := by rw [hw]; exact below_alloc1 _ _
      have hz : w.heap.size = w.heap.size := rfl
      have hs : w1.heap.size = w.heap.size + 1 := by rw [hw, ← hz]; simp
      replace HB := Aside0.mk (below_then HB.out HB.out.size hb); have H_two0 := Aside0.mk (⟨by rw [hw, ← hz]; simp only [World.cell?]; rw [World.alloc_heap_new]; rfl, by rw [hs]; omega⟩ : w1.cell? ⟨w.heap.size, 0, none⟩ = some (.slice A0 rows.length c0) ∧ w.heap.size < w1.heap.size); have H_two1 := Aside0.mk (⟨by rw [hw, ← hz]; simp only [World.cell?]; rw [World.alloc_heap_new]; rfl, by rw [hs]; omega⟩ : w1.cell? ⟨w.heap.size, 1, none⟩ = some (.slice A1 owners.length c1) ∧ w.heap.size < w1.heap.size); clear hw hb hz
      have HZ := Aside0.mk hs; clear hs
      obtain ⟨w2, hw⟩ : ∃ W_, W_ = w1.alloc (.cells #[.int .i64 f0, .int .i64 f1] 38) := ⟨_, rfl⟩
      rw [← hw]
      have hb : Below w1.heap.size w1 w2 := by rw [hw]; exact below_alloc1 _ _
      have hz : w1.heap.size = w.heap.size + 1 := HZ.out
      have hs : w2.heap.size = w.heap.size + 1 + 1 := by rw [hw, ← hz]; simp
      replace H_two0 := Aside0.mk (cell_on H_two0.out hb); replace H_two1 := Aside0.mk (cell_on H_two1.out hb); replace HB := Aside0.mk (below_then HB.out HB.out.size hb); have H_sh0 := Aside0.mk (⟨by rw [hw, ← hz]; simp only [World.cell?]; rw [World.alloc_heap_new]; rfl, by rw [hs]; omega⟩ : w2.cell? ⟨w.heap.size + 1, 0, none⟩ = some (.int .i64 f0) ∧ w.heap.size + 1 < w2.heap.size); have H_sh1 := Aside0.mk (⟨by rw [hw, ← hz]; simp only [World.cell?]; rw [World.alloc_heap_new]; rfl, by rw [hs]; omega⟩ : w2.cell? ⟨w.heap.size + 1, 1, none⟩ = some (.int .i64 f1) ∧ w.heap.size + 1 < w2.heap.size); clear hw hb hz
      have HZ := Aside0.mk hs; clear hs
      obtain ⟨w3, hw⟩ : ∃ W_, W_ = w2.alloc (.cells #[.int .i64 f1] 3) := ⟨_, rfl⟩
      rw [← hw]
      have hb : Below w2.heap.size w2 w3 := by rw [hw]; exact below_alloc1 _ _
      have hz : w2.heap.size = w.heap.size + 1 + 1 := HZ.out
      have hs : w3.heap.size = w.heap.size + 1 + 1 + 1 := by rw [hw, ← hz]; simp
      have hl : Sl (Kd.int .i64) w3 (some ⟨w.heap.size + 1 + 1, 0, none⟩) 1 [f1] := by rw [hw, ← hz]; exact Sl.ints w2 3 [f1] (by show 1 ≤ 1000000; decide)
      replace H_two0 := Aside0.mk (cell_on H_two0.out hb); replace H_two1 := Aside0.mk (cell_on H_two1.out hb); replace H_sh0 := Aside0.mk (cell_on H_sh0.out hb); replace H_sh1 := Aside0.mk (cell_on H_sh1.out hb); replace HB := Aside0.mk (below_then HB.out HB.out.size hb)
      have H_n1 := Aside0.mk hl; clear hl
      clear hw hb hz
      have HZ := Aside0.mk hs; clear hs
      refine (dealing_numbers.calls _ _ [f1] (!([f1] : List Int).any outQ) _ H_n1.out.rd H_n1.out.le (by unfold dealing_numbers.f contains_outQ.f; rfl)).mono ?_; rintro e w9 ⟨rfl, hd⟩; have HB := Aside0.mk (below_then HB.out HB.out.size hd.below); clear hd; generalize hq : (!([f1] : List Int).any outQ) = q
      have HQ := Aside0.mk hq; clear hq
      go_wp2
      go_ret
      exact ⟨ret_b (by rw [HR.out, ← HQ.out]), HB.out⟩
    · have HR : Aside0 (rightS rows.length ⟨f0, f1⟩ = false) := ⟨by unfold rightS; rw [decide_eq_false g1, Bool.and_false, Bool.false_and]⟩
      have H_rows := Aside0.mk h0; clear h0 h1
      go_enter Try.func91, Try.ntmps91
      go_wp2
      go_ret
      exact ⟨ret_b HR.out, (((Below.refl _ _).alloc (Nat.le_refl _) _).alloc (by simp) _)⟩
  · have HR : Aside0 (rightS rows.length ⟨f0, f1⟩ = false) := ⟨by unfold rightS; rw [decide_eq_false g0, Bool.false_and, Bool.false_and]⟩
    have H_rows := Aside0.mk h0; clear h0 h1
    go_enter Try.func91, Try.ntmps91
    go_wp2
    go_ret
    exact ⟨ret_b HR.out, (((Below.refl _ _).alloc (Nat.le_refl _) _).alloc (by simp) _)⟩
def pubFrom : Int → List Int → List Int → Int
  | x, c :: cs, e :: es => pubFrom (x * (c ^ (e % 1073741789).toNat % 2147483579) % 2147483579) cs es
  | x, _, _ => x
def publicD (rows : List (List Int)) (owners cm : List Int) (row : Int) : Int × Int :=
  if checkD rows owners cm = 0 then (if 0 ≤ row ∧ row < rows.length then (pubFrom 1 cm (rows.getD row.toNat []), 0) else (0, 1)) else (0, checkD rows owners cm)
theorem el_one : isEl 1 = true := by
  rw [isEl_iff, Int.one_pow]; exact ⟨by decide, by decide, by decide⟩
theorem el_powI {c : Int} (h : isEl c = true) (v : Int) : isEl (c ^ (v % 1073741789).toNat % 2147483579) = true := el_pow h _
theorem noEl_all {cm : List Int} (h : cm.any noEl = false) : ∀ c ∈ cm, isEl c = true := fun c hc => by
  have := List.any_eq_false.1 h c hc; unfold noEl at this
  simpa using this
theorem dcheck_ok {rows : List (List Int)} {owners cm : List Int} (h : checkD rows owners cm = 0) : checkP rows owners = 0 ∧ cm.length = colsP rows ∧ ∀ c ∈ cm, isEl c = true := by
  unfold checkD at h
  split at h
  · rename_i h1
    split at h
    · rename_i h2
      exact ⟨h1, h2.1, noEl_all h2.2⟩
    · cases h
  · rename_i h1
    exact absurd h h1
theorem dcheck_right {rows : List (List Int)} {owners cm : List Int} (h : checkD rows owners cm = 0) {j : Nat} (hj : j < rows.length) : (rows.getD j []).length = cm.length ∧ ∀ c ∈ cm, isEl c = true := by
  obtain ⟨h1, h2, h3⟩ := dcheck_ok h; have hP := check_ok h1; refine ⟨?_, h3⟩; rw [h2, colsP, if_neg (by omega)]; exact (hP.row j hj).2.1
theorem pub_step {x : Int} {cm row : List Int} {i : Nat} (hx : isEl x = true) (hi : i < cm.length) (hl : row.length = cm.length) (he : ∀ c ∈ cm, isEl c = true) :
    isEl (x * (cm.getD i 0 ^ (row.getD i 0 % 1073741789).toNat % 2147483579) % 2147483579) = true ∧ pubFrom (x * (cm.getD i 0 ^ (row.getD i 0 % 1073741789).toNat % 2147483579) % 2147483579) (cm.drop (i + 1)) (row.drop (i + 1)) = pubFrom x (cm.drop i) (row.drop i) := by
  have h1 : cm.getD i 0 = cm[i] := by rw [List.getD_eq_getElem?_getD, List.getElem?_eq_getElem hi]; rfl
  have h2 : row.getD i 0 = row[i] := by rw [List.getD_eq_getElem?_getD, List.getElem?_eq_getElem (by omega)]; rfl
  rw [h1, h2]; refine ⟨el_mul hx (el_powI (he _ (List.getElem_mem hi)) _), ?_⟩; rw [List.drop_eq_getElem_cons hi, List.drop_eq_getElem_cons (show i < row.length by omega), pubFrom]
set_option maxRecDepth 100000 in
set_option maxHeartbeats 4000000 in
theorem public_w {A0 A1 A2 : Option Addr} {c0 c1 c2 : Nat} {rows : List (List Int)} {owners : List Int} {cm : List Int} {row : Int} {w : World} (h0 : Sl (Kd.slice 3 (Kd.int .i64)) w A0 c0 rows) (h1 : Sl (Kd.int .i64) w A1 c1 owners) (h2 : Sl (Kd.int .i64) w A2 c2 cm) :
    Calls Try.prog 28 #[.agg #[.slice A0 rows.length c0, .slice A1 owners.length c1], .slice A2 cm.length c2, .int .i64 row] w fun e w' => e = .returned (.tuple #[.int .i64 (publicD rows owners cm row).1, .int .i64 (publicD rows owners cm row).2]) ∧ Below w.heap.size w w' := by
  have H_rows := Aside0.mk h0; have H_own := Aside0.mk h1; have H_cm := Aside0.mk h2; have HB := Aside0.mk (Below.refl w.heap.size w); clear h0 h1 h2
  obtain ⟨t, ht⟩ : ∃ t, t = checkD rows owners cm := ⟨_, rfl⟩
  have HP : Aside0 (publicD rows owners cm row = if t = 0 then (if 0 ≤ row ∧ row < rows.length then (pubFrom 1 cm (rows.getD row.toNat []), 0) else (0, 1)) else (0, t)) := ⟨by rw [ht]; rfl⟩
  have HK : Aside0 (∀ W, Sl (Kd.slice 3 (Kd.int .i64)) W A0 c0 rows → Sl (Kd.int .i64) W A1 c1 owners → Sl (Kd.int .i64) W A2 c2 cm → Calls Try.prog 100 #[.agg #[.slice A0 rows.length c0, .slice A1 owners.length c1], .slice A2 cm.length c2] W fun e w' => e = .returned (.int .i64 t) ∧ Below W.heap.size W w') := ⟨fun W g0 g1 g2 => by rw [ht]; exact dcheck_w g0 g1 g2⟩
  rcases Decidable.em (t = 0) with h | h
  · skip
    have hd0 : checkD rows owners cm = 0 := ht.symm.trans h
    have HD0 := Aside0.mk hd0; clear ht hd0
    subst h
    by_cases g0 : 0 ≤ row
    · skip
      by_cases g1 : row < (rows.length : Int)
      · skip
        have HPP : Aside0 (publicD rows owners cm row = (pubFrom 1 cm (rows.getD row.toNat []), 0)) := ⟨by rw [HP.out, if_pos rfl, if_pos ⟨g0, g1⟩]⟩
        clear HP
        go_enter Try.func28, Try.ntmps28
        go_wp2_with fail
        obtain ⟨w1, hw⟩ : ∃ W_, W_ = w.alloc (.cells #[.slice A0 rows.length c0, .slice A1 owners.length c1] 25) := ⟨_, rfl⟩
        rw [← hw]
        have hb : Below w.heap.size w w1 := by rw [hw]; exact below_alloc1 _ _
        have hz : w.heap.size = w.heap.size := rfl
        have hs : w1.heap.size = w.heap.size + 1 := by rw [hw, ← hz]; simp
        replace H_rows := Aside0.mk (H_rows.out.below hb); replace H_own := Aside0.mk (H_own.out.below hb); replace H_cm := Aside0.mk (H_cm.out.below hb); replace HB := Aside0.mk (below_then HB.out HB.out.size hb); have H_two0 := Aside0.mk (⟨by rw [hw, ← hz]; simp only [World.cell?]; rw [World.alloc_heap_new]; rfl, by rw [hs]; omega⟩ : w1.cell? ⟨w.heap.size, 0, none⟩ = some (.slice A0 rows.length c0) ∧ w.heap.size < w1.heap.size); have H_two1 := Aside0.mk (⟨by rw [hw, ← hz]; simp only [World.cell?]; rw [World.alloc_heap_new]; rfl, by rw [hs]; omega⟩ : w1.cell? ⟨w.heap.size, 1, none⟩ = some (.slice A1 owners.length c1) ∧ w.heap.size < w1.heap.size); clear hw hb hz
        have HZ := Aside0.mk hs; clear hs
        refine (HK.out _ H_rows.out H_own.out H_cm.out).mono ?_; rintro e w2 ⟨rfl, hb⟩; replace H_rows := Aside0.mk (H_rows.out.below hb); replace H_own := Aside0.mk (H_own.out.below hb); replace H_cm := Aside0.mk (H_cm.out.below hb); replace H_two0 := Aside0.mk (cell_on H_two0.out hb); replace H_two1 := Aside0.mk (cell_on H_two1.out hb); replace HB := Aside0.mk (below_then HB.out HB.out.size hb); clear hb
        obtain ⟨j, hj⟩ : ∃ j : Nat, (j : Int) = row := ⟨row.toNat, by omega⟩
        subst hj; rw [Int.toNat_natCast] at HPP; obtain ⟨q1, q2⟩ := dcheck_right HD0.out (show j < rows.length by omega)
        have HQ1 := Aside0.mk q1; have HQ2 := Aside0.mk q2; clear q1 q2 HK
        have g3 : decide (j < rows.length) = true := decide_eq_true (by omega); have n0 : decide ((j : Int) < 0) = false := decide_eq_false (by omega); have n1 : decide (rows.length ≤ j) = false := decide_eq_false (by omega); have x0 := H_two0.out.1; go_wp2_with fail; clear x0
        obtain ⟨Wr, hWr⟩ : ∃ W_, W_ = w2 := ⟨_, rfl⟩
        rw [← hWr] at H_rows H_cm H_two0 HB ⊢; clear hWr
        go_loopg [6, 30] cm.length (fun gk v6 v30 wr => ∃ (i : Nat) (x : Int), i ≤ cm.length ∧ gk = cm.length - i ∧ v30 = .int .i64 (i : Int) ∧ v6 = .int .i64 x ∧ Aside0 (isEl x = true ∧ pubFrom x (cm.drop i) ((rows.getD j []).drop i) = pubFrom 1 cm (rows.getD j []) ∧ Below Wr.heap.size Wr wr))
        case atStart => exact ⟨0, 1, Nat.zero_le _, rfl, rfl, rfl, ⟨el_one, rfl, Below.refl _ _⟩⟩
        case round =>
          obtain ⟨i, x, hi, rfl, rfl, rfl, HX⟩ := hrel
          by_cases hlt : i < cm.length
          · have d1 : decide ((i : Int) < (cm.length : Int)) = true := decide_eq_true (by omega)
            have d2 : decide (i < cm.length) = true := decide_eq_true hlt
            have d3 : (0 : Int) ≤ (i : Int) := by omega
            obtain ⟨ad, e, y1⟩ := Kd.at_int H_cm.out.rd (i : Int) (by omega) (by omega); cases e; obtain ⟨ar, Ar, cr, e, z1, z2, z3⟩ := at_L1 H_rows.out.rd (j : Int) (by omega) (by omega); cases e; rw [rd_L1_nat] at z1 z2 z3; rw [rd_nat] at y1; rw [Int.toNat_natCast] at y1 z1; obtain ⟨ae, e, u1⟩ := Kd.at_int z3 (i : Int) (by omega) (by have := HQ1.out; omega); cases e; rw [rd_nat, Int.toNat_natCast] at u1; have hstep := pub_step HX.out.1 hlt HQ1.out HQ2.out; rw [HX.out.2.1] at hstep; have HB2 := HX.out.2.2; replace y1 := (HB2.cell (World.block_lt_of_cell? Wr _ y1)).trans y1; replace z1 := (HB2.cell (World.block_lt_of_cell? Wr _ z1)).trans z1; replace u1 := (HB2.cell (World.block_lt_of_cell? Wr _ u1)).trans u1; have x0 := (HB2.cell (p := ⟨w.heap.size, 0, none⟩) H_two0.out.2).trans H_two0.out.1; have hl := HQ1.out; have HE := Aside0.mk (HQ2.out (cm.getD i 0) (by rw [List.getD_eq_getElem?_getD, List.getElem?_eq_getElem hlt]; exact List.getElem_mem hlt)); generalize cm.getD i 0 = c at y1 hstep HE; generalize (rows.getD j []).getD i 0 = v at u1 hstep; have d4 : decide (i < (rows.getD j []).length) = true := decide_eq_true (by omega)
            have d5 : (i : Int) < ((rows.getD j []).length : Int) := by omega
            generalize (rows.getD j []).length = n at z1 hl d4 d5
            have HL := Aside0.mk hl; have HST := Aside0.mk hstep; have HBB := Aside0.mk HB2; have HXE := Aside0.mk HX.out.1
            clear z2 z3 hl hstep HB2 HX; go_wp2_with fail; refine (group_Pow.calls c v _ _ _ (pow_el HE.out v)).mono ?_; rintro e wa ⟨rfl, hb⟩; have HBB2 := Aside0.mk (below_then HBB.out HBB.out.size hb); have HEP := Aside0.mk (el_powI HE.out v); generalize c ^ (v % 1073741789).toNat % 2147483579 = y at HEP HST; clear hb x0 y1 z1 u1 HBB; go_wp2_with fail; refine (group_Mul.calls x y _ _ _ (mul_els HXE.out HEP.out)).mono ?_; rintro e wb ⟨rfl, hd⟩; have HB3 := Aside0.mk (below_then HBB2.out HBB2.out.size hd.below); clear hd HBB2; go_wp2
            go_roundg (cm.length - (i + 1))
            case measure => omega
            case rel => exact ⟨i + 1, x * y % 2147483579, by omega, rfl, by first | rfl | rw [wrap_nextB (by have := H_cm.out.rd.2.1; omega)], rfl, ⟨HST.out.1, HST.out.2, HB3.out⟩⟩
          · obtain rfl : i = cm.length := by omega
            have d1 : decide ((cm.length : Int) < (cm.length : Int)) = false := decide_eq_false (by omega); have hx := HX.out.2.1; rw [List.drop_length] at hx; have hx : x = pubFrom 1 cm (rows.getD j []) := hx
            have HXX := Aside0.mk hx; clear hx
            go_wp2
            go_ret2
            exact ⟨ret_ii (by rw [HPP.out, ← HXX.out]), below_then HB.out HB.out.size HX.out.2.2⟩
      · skip
        have HPP : Aside0 (publicD rows owners cm row = (0, 1)) := ⟨by rw [HP.out, if_pos rfl, if_neg (fun q => g1 q.2)]⟩
        clear HP; have n0 : decide (row < 0) = false := decide_eq_false (by omega); have n1 : decide ((rows.length : Int) ≤ row) = true := decide_eq_true (by omega); clear g0 g1
        go_enter Try.func28, Try.ntmps28
        go_wp2_with fail
        obtain ⟨w1, hw⟩ : ∃ W_, W_ = w.alloc (.cells #[.slice A0 rows.length c0, .slice A1 owners.length c1] 25) := ⟨_, rfl⟩
        rw [← hw]
        have hb : Below w.heap.size w w1 := by rw [hw]; exact below_alloc1 _ _
        have hz : w.heap.size = w.heap.size := rfl
        have hs : w1.heap.size = w.heap.size + 1 := by rw [hw, ← hz]; simp
        replace H_rows := Aside0.mk (H_rows.out.below hb); replace H_own := Aside0.mk (H_own.out.below hb); replace H_cm := Aside0.mk (H_cm.out.below hb); replace HB := Aside0.mk (below_then HB.out HB.out.size hb); have H_two0 := Aside0.mk (⟨by rw [hw, ← hz]; simp only [World.cell?]; rw [World.alloc_heap_new]; rfl, by rw [hs]; omega⟩ : w1.cell? ⟨w.heap.size, 0, none⟩ = some (.slice A0 rows.length c0) ∧ w.heap.size < w1.heap.size); have H_two1 := Aside0.mk (⟨by rw [hw, ← hz]; simp only [World.cell?]; rw [World.alloc_heap_new]; rfl, by rw [hs]; omega⟩ : w1.cell? ⟨w.heap.size, 1, none⟩ = some (.slice A1 owners.length c1) ∧ w.heap.size < w1.heap.size); clear hw hb hz
        have HZ := Aside0.mk hs; clear hs
        refine (HK.out _ H_rows.out H_own.out H_cm.out).mono ?_; rintro e w2 ⟨rfl, hb⟩; replace H_rows := Aside0.mk (H_rows.out.below hb); replace H_own := Aside0.mk (H_own.out.below hb); replace H_cm := Aside0.mk (H_cm.out.below hb); replace H_two0 := Aside0.mk (cell_on H_two0.out hb); replace H_two1 := Aside0.mk (cell_on H_two1.out hb); replace HB := Aside0.mk (below_then HB.out HB.out.size hb); clear hb; have x_two0 := H_two0.out.1; go_wp2
        go_ret2
        exact ⟨ret_ii HPP.out, HB.out⟩
    · skip
      have HPP : Aside0 (publicD rows owners cm row = (0, 1)) := ⟨by rw [HP.out, if_pos rfl, if_neg (fun q => g0 q.1)]⟩
      clear HP; have n0 : decide (row < 0) = true := decide_eq_true (by omega); clear g0
      go_enter Try.func28, Try.ntmps28
      go_wp2_with fail
      obtain ⟨w1, hw⟩ : ∃ W_, W_ = w.alloc (.cells #[.slice A0 rows.length c0, .slice A1 owners.length c1] 25) := ⟨_, rfl⟩
      rw [← hw]
      have hb : Below w.heap.size w w1 := by rw [hw]; exact below_alloc1 _ _
      have hz : w.heap.size = w.heap.size := rfl
      have hs : w1.heap.size = w.heap.size + 1 := by rw [hw, ← hz]; simp
      replace H_rows := Aside0.mk (H_rows.out.below hb); replace H_own := Aside0.mk (H_own.out.below hb); replace H_cm := Aside0.mk (H_cm.out.below hb); replace HB := Aside0.mk (below_then HB.out HB.out.size hb); have H_two0 := Aside0.mk (⟨by rw [hw, ← hz]; simp only [World.cell?]; rw [World.alloc_heap_new]; rfl, by rw [hs]; omega⟩ : w1.cell? ⟨w.heap.size, 0, none⟩ = some (.slice A0 rows.length c0) ∧ w.heap.size < w1.heap.size); have H_two1 := Aside0.mk (⟨by rw [hw, ← hz]; simp only [World.cell?]; rw [World.alloc_heap_new]; rfl, by rw [hs]; omega⟩ : w1.cell? ⟨w.heap.size, 1, none⟩ = some (.slice A1 owners.length c1) ∧ w.heap.size < w1.heap.size); clear hw hb hz
      have HZ := Aside0.mk hs; clear hs
      refine (HK.out _ H_rows.out H_own.out H_cm.out).mono ?_; rintro e w2 ⟨rfl, hb⟩; replace H_rows := Aside0.mk (H_rows.out.below hb); replace H_own := Aside0.mk (H_own.out.below hb); replace H_cm := Aside0.mk (H_cm.out.below hb); replace H_two0 := Aside0.mk (cell_on H_two0.out hb); replace H_two1 := Aside0.mk (cell_on H_two1.out hb); replace HB := Aside0.mk (below_then HB.out HB.out.size hb); clear hb; go_wp2
      go_ret2
      exact ⟨ret_ii HPP.out, HB.out⟩
  · skip
    clear ht; have q1 : (t == 0) = false := beq_eq_false_iff_ne.mpr h; have q2 : (t != 0) = true := bne_iff_ne.mpr h; have HN := Aside0.mk h
    go_enter Try.func28, Try.ntmps28
    go_wp2_with fail
    obtain ⟨w1, hw⟩ : ∃ W_, W_ = w.alloc (.cells #[.slice A0 rows.length c0, .slice A1 owners.length c1] 25) := ⟨_, rfl⟩
    rw [← hw]
    have hb : Below w.heap.size w w1 := by rw [hw]; exact below_alloc1 _ _
    have hz : w.heap.size = w.heap.size := rfl
    have hs : w1.heap.size = w.heap.size + 1 := by rw [hw, ← hz]; simp
    replace H_rows := Aside0.mk (H_rows.out.below hb); replace H_own := Aside0.mk (H_own.out.below hb); replace H_cm := Aside0.mk (H_cm.out.below hb); replace HB := Aside0.mk (below_then HB.out HB.out.size hb); have H_two0 := Aside0.mk (⟨by rw [hw, ← hz]; simp only [World.cell?]; rw [World.alloc_heap_new]; rfl, by rw [hs]; omega⟩ : w1.cell? ⟨w.heap.size, 0, none⟩ = some (.slice A0 rows.length c0) ∧ w.heap.size < w1.heap.size); have H_two1 := Aside0.mk (⟨by rw [hw, ← hz]; simp only [World.cell?]; rw [World.alloc_heap_new]; rfl, by rw [hs]; omega⟩ : w1.cell? ⟨w.heap.size, 1, none⟩ = some (.slice A1 owners.length c1) ∧ w.heap.size < w1.heap.size); clear hw hb hz
    have HZ := Aside0.mk hs; clear hs
    refine (HK.out _ H_rows.out H_own.out H_cm.out).mono ?_; rintro e w2 ⟨rfl, hb⟩; replace H_rows := Aside0.mk (H_rows.out.below hb); replace H_own := Aside0.mk (H_own.out.below hb); replace H_cm := Aside0.mk (H_cm.out.below hb); replace H_two0 := Aside0.mk (cell_on H_two0.out hb); replace H_two1 := Aside0.mk (cell_on H_two1.out hb); replace HB := Aside0.mk (below_then HB.out HB.out.size hb); clear hb; go_wp2
    go_ret2
    exact ⟨ret_ii (by rw [HP.out, if_neg HN.out]), HB.out⟩
def fitsD (rows : List (List Int)) (owners cm : List Int) (row v : Int) : Bool × Int :=
  if checkD rows owners cm = 0 then (if rightS rows.length ⟨row, v⟩ then (commitQ v == (publicD rows owners cm row).1, 0) else (false, 340)) else (false, checkD rows owners cm)
theorem rightS_row {n : Nat} {row v : Int} (h : rightS n ⟨row, v⟩ = true) : 0 ≤ row ∧ row < n := by
  unfold rightS at h; simp only [Bool.and_eq_true, decide_eq_true_eq] at h; exact h.1
set_option maxRecDepth 100000 in
set_option maxHeartbeats 4000000 in
theorem fits_w {A0 A1 A2 : Option Addr} {c0 c1 c2 : Nat} {rows : List (List Int)} {owners : List Int} {cm : List Int} {row v : Int} {w : World} (h0 : Sl (Kd.slice 3 (Kd.int .i64)) w A0 c0 rows) (h1 : Sl (Kd.int .i64) w A1 c1 owners) (h2 : Sl (Kd.int .i64) w A2 c2 cm) :
    Calls Try.prog 30 #[.agg #[.slice A0 rows.length c0, .slice A1 owners.length c1], .slice A2 cm.length c2, .agg #[.int .i64 row, .int .i64 v]] w fun e w' => e = .returned (.tuple #[.bool (fitsD rows owners cm row v).1, .int .i64 (fitsD rows owners cm row v).2]) ∧ Below w.heap.size w w' := by
  have H_rows := Aside0.mk h0; have H_own := Aside0.mk h1; have H_cm := Aside0.mk h2; have HB := Aside0.mk (Below.refl w.heap.size w); clear h0 h1 h2
  obtain ⟨t, ht⟩ : ∃ t, t = checkD rows owners cm := ⟨_, rfl⟩
  have HK : Aside0 (∀ W, Sl (Kd.slice 3 (Kd.int .i64)) W A0 c0 rows → Sl (Kd.int .i64) W A1 c1 owners → Sl (Kd.int .i64) W A2 c2 cm → Calls Try.prog 100 #[.agg #[.slice A0 rows.length c0, .slice A1 owners.length c1], .slice A2 cm.length c2] W fun e w' => e = .returned (.int .i64 t) ∧ Below W.heap.size W w') := ⟨fun W g0 g1 g2 => by rw [ht]; exact dcheck_w g0 g1 g2⟩
  rcases Decidable.em (t = 0) with h | h
  · skip
    have hd0 : checkD rows owners cm = 0 := ht.symm.trans h; clear ht; subst h
    cases hr : rightS rows.length ⟨row, v⟩ with
    | false =>
      have HF : Aside0 (fitsD rows owners cm row v = (false, 340)) := ⟨by unfold fitsD; rw [if_pos hd0, hr]; rfl⟩
      have HR := Aside0.mk hr; clear hr hd0
      go_enter Try.func30, Try.ntmps30
      go_wp2_with fail
      obtain ⟨w1, hw⟩ : ∃ W_, W_ = w.alloc (.cells #[.slice A0 rows.length c0, .slice A1 owners.length c1] 25) := ⟨_, rfl⟩
      rw [← hw]
      have hb : Below w.heap.size w w1 := by rw [hw]; exact below_alloc1 _ _
      have hz : w.heap.size = w.heap.size := rfl
      have hs : w1.heap.size = w.heap.size + 1 := by rw [hw, ← hz]; simp
      replace H_rows := Aside0.mk (H_rows.out.below hb); replace H_own := Aside0.mk (H_own.out.below hb); replace H_cm := Aside0.mk (H_cm.out.below hb); replace HB := Aside0.mk (below_then HB.out HB.out.size hb); have H_two0 := Aside0.mk (⟨by rw [hw, ← hz]; simp only [World.cell?]; rw [World.alloc_heap_new]; rfl, by rw [hs]; omega⟩ : w1.cell? ⟨w.heap.size, 0, none⟩ = some (.slice A0 rows.length c0) ∧ w.heap.size < w1.heap.size); have H_two1 := Aside0.mk (⟨by rw [hw, ← hz]; simp only [World.cell?]; rw [World.alloc_heap_new]; rfl, by rw [hs]; omega⟩ : w1.cell? ⟨w.heap.size, 1, none⟩ = some (.slice A1 owners.length c1) ∧ w.heap.size < w1.heap.size); clear hw hb hz
      have HZ := Aside0.mk hs; clear hs
      obtain ⟨w2, hw⟩ : ∃ W_, W_ = w1.alloc (.cells #[.int .i64 row, .int .i64 v] 38) := ⟨_, rfl⟩
      rw [← hw]
      have hb : Below w1.heap.size w1 w2 := by rw [hw]; exact below_alloc1 _ _
      have hz : w1.heap.size = w.heap.size + 1 := HZ.out
      have hs : w2.heap.size = w.heap.size + 1 + 1 := by rw [hw, ← hz]; simp
      replace H_rows := Aside0.mk (H_rows.out.below hb); replace H_own := Aside0.mk (H_own.out.below hb); replace H_cm := Aside0.mk (H_cm.out.below hb); replace H_two0 := Aside0.mk (cell_on H_two0.out hb); replace H_two1 := Aside0.mk (cell_on H_two1.out hb); replace HB := Aside0.mk (below_then HB.out HB.out.size hb); have H_sh0 := Aside0.mk (⟨by rw [hw, ← hz]; simp only [World.cell?]; rw [World.alloc_heap_new]; rfl, by rw [hs]; omega⟩ : w2.cell? ⟨w.heap.size + 1, 0, none⟩ = some (.int .i64 row) ∧ w.heap.size + 1 < w2.heap.size); have H_sh1 := Aside0.mk (⟨by rw [hw, ← hz]; simp only [World.cell?]; rw [World.alloc_heap_new]; rfl, by rw [hs]; omega⟩ : w2.cell? ⟨w.heap.size + 1, 1, none⟩ = some (.int .i64 v) ∧ w.heap.size + 1 < w2.heap.size); clear hw hb hz
      have HZ := Aside0.mk hs; clear hs
      refine (HK.out _ H_rows.out H_own.out H_cm.out).mono ?_; rintro e w3 ⟨rfl, hb⟩; replace H_rows := Aside0.mk (H_rows.out.below hb); replace H_own := Aside0.mk (H_own.out.below hb); replace H_cm := Aside0.mk (H_cm.out.below hb); replace H_two0 := Aside0.mk (cell_on H_two0.out hb); replace H_two1 := Aside0.mk (cell_on H_two1.out hb); replace H_sh0 := Aside0.mk (cell_on H_sh0.out hb); replace H_sh1 := Aside0.mk (cell_on H_sh1.out hb); replace HB := Aside0.mk (below_then HB.out HB.out.size hb); clear hb; have x_two0 := H_two0.out.1; have x_two1 := H_two1.out.1; have x_sh0 := H_sh0.out.1; have x_sh1 := H_sh1.out.1; go_wp2_with fail; clear x_two0 x_two1 x_sh0 x_sh1; have HQ := right_w (f0 := row) (f1 := v) H_rows.out H_own.out; rw [HR.out] at HQ; refine (HQ).mono ?_; rintro e w4 ⟨rfl, hb⟩; replace H_rows := Aside0.mk (H_rows.out.below hb); replace H_own := Aside0.mk (H_own.out.below hb); replace H_cm := Aside0.mk (H_cm.out.below hb); replace H_two0 := Aside0.mk (cell_on H_two0.out hb); replace H_two1 := Aside0.mk (cell_on H_two1.out hb); replace H_sh0 := Aside0.mk (cell_on H_sh0.out hb); replace H_sh1 := Aside0.mk (cell_on H_sh1.out hb); replace HB := Aside0.mk (below_then HB.out HB.out.size hb); clear hb; clear HQ; go_wp2
      go_ret2
      exact ⟨ret_bi HF.out, HB.out⟩
    | true =>
      obtain ⟨g0, g1⟩ := rightS_row hr
      obtain ⟨y, hy⟩ : ∃ y, publicD rows owners cm row = (y, 0) := ⟨_, by unfold publicD; rw [if_pos hd0, if_pos ⟨g0, g1⟩]⟩
      have HF : Aside0 (fitsD rows owners cm row v = (commitQ v == y, 0)) := ⟨by unfold fitsD; rw [if_pos hd0, hr, hy]; rfl⟩
      have HR := Aside0.mk hr; have HY := Aside0.mk hy; clear hr hd0 hy g0 g1
      go_enter Try.func30, Try.ntmps30
      go_wp2_with fail
      obtain ⟨w1, hw⟩ : ∃ W_, W_ = w.alloc (.cells #[.slice A0 rows.length c0, .slice A1 owners.length c1] 25) := ⟨_, rfl⟩
      rw [← hw]
      have hb : Below w.heap.size w w1 := by rw [hw]; exact below_alloc1 _ _
      have hz : w.heap.size = w.heap.size := rfl
      have hs : w1.heap.size = w.heap.size + 1 := by rw [hw, ← hz]; simp
      replace H_rows := Aside0.mk (H_rows.out.below hb); replace H_own := Aside0.mk (H_own.out.below hb); replace H_cm := Aside0.mk (H_cm.out.below hb); replace HB := Aside0.mk (below_then HB.out HB.out.size hb); have H_two0 := Aside0.mk (⟨by rw [hw, ← hz]; simp only [World.cell?]; rw [World.alloc_heap_new]; rfl, by rw [hs]; omega⟩ : w1.cell? ⟨w.heap.size, 0, none⟩ = some (.slice A0 rows.length c0) ∧ w.heap.size < w1.heap.size); have H_two1 := Aside0.mk (⟨by rw [hw, ← hz]; simp only [World.cell?]; rw [World.alloc_heap_new]; rfl, by rw [hs]; omega⟩ : w1.cell? ⟨w.heap.size, 1, none⟩ = some (.slice A1 owners.length c1) ∧ w.heap.size < w1.heap.size); clear hw hb hz
      have HZ := Aside0.mk hs; clear hs
      obtain ⟨w2, hw⟩ : ∃ W_, W_ = w1.alloc (.cells #[.int .i64 row, .int .i64 v] 38) := ⟨_, rfl⟩
      rw [← hw]
      have hb : Below w1.heap.size w1 w2 := by rw [hw]; exact below_alloc1 _ _
      have hz : w1.heap.size = w.heap.size + 1 := HZ.out
      have hs : w2.heap.size = w.heap.size + 1 + 1 := by rw [hw, ← hz]; simp
      replace H_rows := Aside0.mk (H_rows.out.below hb); replace H_own := Aside0.mk (H_own.out.below hb); replace H_cm := Aside0.mk (H_cm.out.below hb); replace H_two0 := Aside0.mk (cell_on H_two0.out hb); replace H_two1 := Aside0.mk (cell_on H_two1.out hb); replace HB := Aside0.mk (below_then HB.out HB.out.size hb); have H_sh0 := Aside0.mk (⟨by rw [hw, ← hz]; simp only [World.cell?]; rw [World.alloc_heap_new]; rfl, by rw [hs]; omega⟩ : w2.cell? ⟨w.heap.size + 1, 0, none⟩ = some (.int .i64 row) ∧ w.heap.size + 1 < w2.heap.size); have H_sh1 := Aside0.mk (⟨by rw [hw, ← hz]; simp only [World.cell?]; rw [World.alloc_heap_new]; rfl, by rw [hs]; omega⟩ : w2.cell? ⟨w.heap.size + 1, 1, none⟩ = some (.int .i64 v) ∧ w.heap.size + 1 < w2.heap.size); clear hw hb hz
      have HZ := Aside0.mk hs; clear hs
      refine (HK.out _ H_rows.out H_own.out H_cm.out).mono ?_; rintro e w3 ⟨rfl, hb⟩; replace H_rows := Aside0.mk (H_rows.out.below hb); replace H_own := Aside0.mk (H_own.out.below hb); replace H_cm := Aside0.mk (H_cm.out.below hb); replace H_two0 := Aside0.mk (cell_on H_two0.out hb); replace H_two1 := Aside0.mk (cell_on H_two1.out hb); replace H_sh0 := Aside0.mk (cell_on H_sh0.out hb); replace H_sh1 := Aside0.mk (cell_on H_sh1.out hb); replace HB := Aside0.mk (below_then HB.out HB.out.size hb); clear hb; have x_two0 := H_two0.out.1; have x_two1 := H_two1.out.1; have x_sh0 := H_sh0.out.1; have x_sh1 := H_sh1.out.1; go_wp2_with fail; clear x_two0 x_two1 x_sh0 x_sh1; have HQ := right_w (f0 := row) (f1 := v) H_rows.out H_own.out; rw [HR.out] at HQ; refine (HQ).mono ?_; rintro e w4 ⟨rfl, hb⟩; replace H_rows := Aside0.mk (H_rows.out.below hb); replace H_own := Aside0.mk (H_own.out.below hb); replace H_cm := Aside0.mk (H_cm.out.below hb); replace H_two0 := Aside0.mk (cell_on H_two0.out hb); replace H_two1 := Aside0.mk (cell_on H_two1.out hb); replace H_sh0 := Aside0.mk (cell_on H_sh0.out hb); replace H_sh1 := Aside0.mk (cell_on H_sh1.out hb); replace HB := Aside0.mk (below_then HB.out HB.out.size hb); clear hb; clear HQ; have x_two0 := H_two0.out.1; have x_two1 := H_two1.out.1; have x_sh0 := H_sh0.out.1; go_wp2_with fail; clear x_two0 x_two1 x_sh0; have HQ := public_w (row := row) H_rows.out H_own.out H_cm.out; rw [HY.out] at HQ; refine (HQ).mono ?_; rintro e w5 ⟨rfl, hb⟩; clear H_rows; clear H_own; clear H_cm; clear H_two0; clear H_two1; replace H_sh0 := Aside0.mk (cell_on H_sh0.out hb); replace H_sh1 := Aside0.mk (cell_on H_sh1.out hb); replace HB := Aside0.mk (below_then HB.out HB.out.size hb); clear hb; clear HQ; have x_sh1 := H_sh1.out.1; go_wp2_with fail; clear x_sh1; refine (group_Pow.calls 4 v _ _ _ (pow_four v)).mono ?_; rintro e w6 ⟨rfl, hb⟩; replace H_sh0 := Aside0.mk (cell_on H_sh0.out hb); replace H_sh1 := Aside0.mk (cell_on H_sh1.out hb); replace HB := Aside0.mk (below_then HB.out HB.out.size hb); clear hb; generalize commitQ v = z at HF ⊢; go_wp2
      go_ret2
      exact ⟨ret_bi HF.out, HB.out⟩
  · skip
    have HF : Aside0 (fitsD rows owners cm row v = (false, t)) := ⟨by unfold fitsD; rw [← ht, if_neg h]⟩
    clear ht; have q1 : (t == 0) = false := beq_eq_false_iff_ne.mpr h; have q2 : (t != 0) = true := bne_iff_ne.mpr h
    go_enter Try.func30, Try.ntmps30
    go_wp2_with fail
    obtain ⟨w1, hw⟩ : ∃ W_, W_ = w.alloc (.cells #[.slice A0 rows.length c0, .slice A1 owners.length c1] 25) := ⟨_, rfl⟩
    rw [← hw]
    have hb : Below w.heap.size w w1 := by rw [hw]; exact below_alloc1 _ _
    have hz : w.heap.size = w.heap.size := rfl
    have hs : w1.heap.size = w.heap.size + 1 := by rw [hw, ← hz]; simp
    replace H_rows := Aside0.mk (H_rows.out.below hb); replace H_own := Aside0.mk (H_own.out.below hb); replace H_cm := Aside0.mk (H_cm.out.below hb); replace HB := Aside0.mk (below_then HB.out HB.out.size hb); have H_two0 := Aside0.mk (⟨by rw [hw, ← hz]; simp only [World.cell?]; rw [World.alloc_heap_new]; rfl, by rw [hs]; omega⟩ : w1.cell? ⟨w.heap.size, 0, none⟩ = some (.slice A0 rows.length c0) ∧ w.heap.size < w1.heap.size); have H_two1 := Aside0.mk (⟨by rw [hw, ← hz]; simp only [World.cell?]; rw [World.alloc_heap_new]; rfl, by rw [hs]; omega⟩ : w1.cell? ⟨w.heap.size, 1, none⟩ = some (.slice A1 owners.length c1) ∧ w.heap.size < w1.heap.size); clear hw hb hz
    have HZ := Aside0.mk hs; clear hs
    obtain ⟨w2, hw⟩ : ∃ W_, W_ = w1.alloc (.cells #[.int .i64 row, .int .i64 v] 38) := ⟨_, rfl⟩
    rw [← hw]
    have hb : Below w1.heap.size w1 w2 := by rw [hw]; exact below_alloc1 _ _
    have hz : w1.heap.size = w.heap.size + 1 := HZ.out
    have hs : w2.heap.size = w.heap.size + 1 + 1 := by rw [hw, ← hz]; simp
    replace H_rows := Aside0.mk (H_rows.out.below hb); replace H_own := Aside0.mk (H_own.out.below hb); replace H_cm := Aside0.mk (H_cm.out.below hb); replace H_two0 := Aside0.mk (cell_on H_two0.out hb); replace H_two1 := Aside0.mk (cell_on H_two1.out hb); replace HB := Aside0.mk (below_then HB.out HB.out.size hb); have H_sh0 := Aside0.mk (⟨by rw [hw, ← hz]; simp only [World.cell?]; rw [World.alloc_heap_new]; rfl, by rw [hs]; omega⟩ : w2.cell? ⟨w.heap.size + 1, 0, none⟩ = some (.int .i64 row) ∧ w.heap.size + 1 < w2.heap.size); have H_sh1 := Aside0.mk (⟨by rw [hw, ← hz]; simp only [World.cell?]; rw [World.alloc_heap_new]; rfl, by rw [hs]; omega⟩ : w2.cell? ⟨w.heap.size + 1, 1, none⟩ = some (.int .i64 v) ∧ w.heap.size + 1 < w2.heap.size); clear hw hb hz
    have HZ := Aside0.mk hs; clear hs
    refine (HK.out _ H_rows.out H_own.out H_cm.out).mono ?_; rintro e w3 ⟨rfl, hb⟩; replace H_rows := Aside0.mk (H_rows.out.below hb); replace H_own := Aside0.mk (H_own.out.below hb); replace H_cm := Aside0.mk (H_cm.out.below hb); replace H_two0 := Aside0.mk (cell_on H_two0.out hb); replace H_two1 := Aside0.mk (cell_on H_two1.out hb); replace H_sh0 := Aside0.mk (cell_on H_sh0.out hb); replace H_sh1 := Aside0.mk (cell_on H_sh1.out hb); replace HB := Aside0.mk (below_then HB.out HB.out.size hb); clear hb; go_wp2
    go_ret2
    exact ⟨ret_bi HF.out, HB.out⟩
end Go.Proofs.Ytdbamhckgaoibaa.P
namespace Go.Proofs.Ytdbamhckgaoibaa.P
open Go.RowKit Go.Proofs.YtdbamhckgaoibaaW.PrintWords Go.Proofs.YtdbamhckgaoibaaW.PrintLast Go.Proofs.YtdbamhckgaoibaaW.PrintMore
attribute [local go_sem] max2_int min2_int max_two min_two max_three min_three max_four min_four
set_option linter.unusedVariables false
set_option linter.unusedSimpArgs false
attribute [local go_sem high] eqA38
mutual
def signatoryref23_Check.l0 : Nat → Int → List (List Int) → List Int → Option (Int)
 | 0, _, _, _ => none
 | k + 1, x3, x263000, x263001 => if x3 < (x263000.length : Int) then (if 0 ≤ x3 then (if ((rd_L1 x263000 x3).length : Int) > 64 then (some 2) else (signatoryref23_Check.l0 k (wrap64 (x3 + 1)) x263000 x263001)) else (none)) else (if (x263000.length : Int) = (x263001.length : Int) then (signatoryref23_Check.l1 k 0 x263000 x263001) else (some 230))
def signatoryref23_Check.l1 : Nat → Int → List (List Int) → List Int → Option (Int)
 | 0, _, _, _ => none
 | k + 1, x4, x263000, x263001 => if x4 < (x263000.length : Int) then (if 0 ≤ x4 then (if ((rd_L1 x263000 x4).length : Int) < 1 then (signatoryref23_Check.j2 k x4 true x263000 x263001) else (if 0 < (x263000.length : Int) then (if ((rd_L1 x263000 x4).length : Int) = ((rd_L1 x263000 0).length : Int) then (if x4 < (x263001.length : Int) then (if (rd x263001 x4) < 0 then (signatoryref23_Check.j2 k x4 true x263000 x263001) else (signatoryref23_Check.j2 k x4 (decide ((rd x263001 x4) ≥ 64)) x263000 x263001)) else (none)) else (signatoryref23_Check.j2 k x4 true x263000 x263001)) else (none))) else (none)) else (some 0)
def signatoryref23_Check.j2 : Nat → Int → Bool → List (List Int) → List Int → Option (Int)
 | 0, _, _, _, _ => none
 | k + 1, x4, x74, x263000, x263001 => if x74 = true then (some 230) else (signatoryref23_Check.l2 k x4 0 x263000 x263001)
def signatoryref23_Check.l2 : Nat → Int → Int → List (List Int) → List Int → Option (Int)
 | 0, _, _, _, _ => none
 | k + 1, x4, x5, x263000, x263001 => if 0 ≤ x4 then (if x4 < (x263000.length : Int) then (if x5 < ((rd_L1 x263000 x4).length : Int) then (if 0 ≤ x5 then (if (rd (rd_L1 x263000 x4) x5) < 0 then (some 230) else (if (rd (rd_L1 x263000 x4) x5) ≥ 1073741789 then (some 230) else (signatoryref23_Check.l2 k x4 (wrap64 (x5 + 1)) x263000 x263001))) else (none)) else (signatoryref23_Check.l1 k (wrap64 (x4 + 1)) x263000 x263001)) else (none)) else (none)
end
def signatoryref23_Check.f (k : Nat) (l0_0 : List (List Int)) (l0_1 : List Int) : Option (Int) := if (l0_0.length : Int) > 64 then (some 2) else (signatoryref23_Check.l0 k 0 l0_0 l0_1)
set_option maxHeartbeats 8000000 in
set_option maxRecDepth 100000 in
theorem signatoryref23_Check.calls (k : Nat) (A0_0 : Option Addr) (c0_0 : Nat) (l0_0 : List (List Int)) (A0_1 : Option Addr) (c0_1 : Nat) (l0_1 : List Int) (r : Int) (w : World) (hr0_0 : Kd.C (Kd.slice 3 (Kd.int .i64)) w A0_0 l0_0.length l0_0) (hc0_0 : l0_0.length ≤ c0_0) (hr0_1 : Kd.C (Kd.int .i64) w A0_1 l0_1.length l0_1) (hc0_1 : l0_1.length ≤ c0_1) (h : signatoryref23_Check.f k l0_0 l0_1 = some r) :
  Calls Try.prog 58 #[.agg #[.slice A0_0 l0_0.length c0_0, .slice A0_1 l0_1.length c0_1]] w fun e w' => e = .returned (.int .i64 r) ∧ Below w.heap.size w w' := by
 have hu25 := Try.underlying25; have HR0_0 := Aside0.mk hr0_0; have HC0_0 := Aside0.mk hc0_0; clear hr0_0 hc0_0; have HR0_1 := Aside0.mk hr0_1; have HC0_1 := Aside0.mk hc0_1; clear hr0_1 hc0_1; have HB := Aside0.mk (Below.refl w.heap.size w); have H : (if (l0_0.length : Int) > 64 then (some 2) else (signatoryref23_Check.l0 k 0 l0_0 l0_1)) = some r := h; clear h
 by_cases c2 : (l0_0.length : Int) > 64
 ·rw [if_pos c2] at H
  have c2b0 : decide (64 < (l0_0.length : Int)) = true := decide_eq_true c2; have c2b1 : decide (64 < l0_0.length) = true := decide_eq_true (by omega); clear c2; obtain rfl := Option.some.inj H
  go_enter Try.func58, Try.ntmps58
  go_wp2_with (first | ((with_reducible refine gate_dst (N := 1) rfl ?_); (try (refine gate_guard (by rfl) ?_; dsimp only)); refine box_event ?hg (N := 1) ?hd (cs := #[.slice A0_0 l0_0.length c0_0, .slice A0_1 l0_1.length c0_1]) (t := 25) ?hr ?_; (case hd => rfl); (case hg => rfl); (case hr => first | (go_simp; done) | (go_simp; rfl)); intro gb262 hg w3 hbox hb; have n0_ := Aside0.mk (below_step (by repeat (first | (with_reducible first | exact HB.out | apply below_alloc | apply pw_below_drewN | apply below_drew1) | exact HB.out)) hb); have n1_ := Aside0.mk (hbox); have n2_ := Aside0.mk ((by rw [hg]; exact (below_size (by repeat (first | (with_reducible first | exact HB.out | apply below_alloc | apply pw_below_drewN | apply below_drew1) | exact HB.out))) : w.heap.size ≤ gb262)); have n3_ := Aside0.mk ((by rw [hg]; exact (below_size (by repeat (first | (with_reducible first | exact HB.out | apply below_alloc | apply pw_below_drewN | apply below_drew1) | exact HB.out))) : w.heap.size ≤ gb262)); clear HB; have HB := n0_; have BK262 := n1_; have GW262 := n2_; have GE262 := n3_; clear n0_ n1_ n2_ n3_; clear hb hbox hg; have hcz4_0 : w3.cell? ⟨gb262, 0, none⟩ = some (.slice A0_0 l0_0.length c0_0) := (blk_cell BK262.out 0).trans rfl; have hcz4_1 : w3.cell? ⟨gb262, 1, none⟩ = some (.slice A0_1 l0_1.length c0_1) := (blk_cell BK262.out 1).trans rfl; have hfz4_0 := blk_frozen BK262.out 0; have hfz4_1 := blk_frozen BK262.out 1))
  repeat (go_quiet (first | ((with_reducible refine gate_dst (N := 1) rfl ?_); (try (refine gate_guard (by rfl) ?_; dsimp only)); refine box_event ?hg (N := 1) ?hd (cs := #[.slice A0_0 l0_0.length c0_0, .slice A0_1 l0_1.length c0_1]) (t := 25) ?hr ?_; (case hd => rfl); (case hg => rfl); (case hr => first | (go_simp; done) | (go_simp; rfl)); intro gb262 hg w3 hbox hb; have n0_ := Aside0.mk (below_step (by repeat (first | (with_reducible first | exact HB.out | apply below_alloc | apply pw_below_drewN | apply below_drew1) | exact HB.out)) hb); have n1_ := Aside0.mk (hbox); have n2_ := Aside0.mk ((by rw [hg]; exact (below_size (by repeat (first | (with_reducible first | exact HB.out | apply below_alloc | apply pw_below_drewN | apply below_drew1) | exact HB.out))) : w.heap.size ≤ gb262)); have n3_ := Aside0.mk ((by rw [hg]; exact (below_size (by repeat (first | (with_reducible first | exact HB.out | apply below_alloc | apply pw_below_drewN | apply below_drew1) | exact HB.out))) : w.heap.size ≤ gb262)); clear HB; have HB := n0_; have BK262 := n1_; have GW262 := n2_; have GE262 := n3_; clear n0_ n1_ n2_ n3_; clear hb hbox hg; have hcz4_0 : w3.cell? ⟨gb262, 0, none⟩ = some (.slice A0_0 l0_0.length c0_0) := (blk_cell BK262.out 0).trans rfl; have hcz4_1 : w3.cell? ⟨gb262, 1, none⟩ = some (.slice A0_1 l0_1.length c0_1) := (blk_cell BK262.out 1).trans rfl; have hfz4_0 := blk_frozen BK262.out 0; have hfz4_1 := blk_frozen BK262.out 1)); try go_wp2_with (first | ((with_reducible refine gate_dst (N := 1) rfl ?_); (try (refine gate_guard (by rfl) ?_; dsimp only)); refine box_event ?hg (N := 1) ?hd (cs := #[.slice A0_0 l0_0.length c0_0, .slice A0_1 l0_1.length c0_1]) (t := 25) ?hr ?_; (case hd => rfl); (case hg => rfl); (case hr => first | (go_simp; done) | (go_simp; rfl)); intro gb262 hg w3 hbox hb; have n0_ := Aside0.mk (below_step (by repeat (first | (with_reducible first | exact HB.out | apply below_alloc | apply pw_below_drewN | apply below_drew1) | exact HB.out)) hb); have n1_ := Aside0.mk (hbox); have n2_ := Aside0.mk ((by rw [hg]; exact (below_size (by repeat (first | (with_reducible first | exact HB.out | apply below_alloc | apply pw_below_drewN | apply below_drew1) | exact HB.out))) : w.heap.size ≤ gb262)); have n3_ := Aside0.mk ((by rw [hg]; exact (below_size (by repeat (first | (with_reducible first | exact HB.out | apply below_alloc | apply pw_below_drewN | apply below_drew1) | exact HB.out))) : w.heap.size ≤ gb262)); clear HB; have HB := n0_; have BK262 := n1_; have GW262 := n2_; have GE262 := n3_; clear n0_ n1_ n2_ n3_; clear hb hbox hg; have hcz4_0 : w3.cell? ⟨gb262, 0, none⟩ = some (.slice A0_0 l0_0.length c0_0) := (blk_cell BK262.out 0).trans rfl; have hcz4_1 : w3.cell? ⟨gb262, 1, none⟩ = some (.slice A0_1 l0_1.length c0_1) := (blk_cell BK262.out 1).trans rfl; have hfz4_0 := blk_frozen BK262.out 0; have hfz4_1 := blk_frozen BK262.out 1)))
  go_ret
  exact ⟨by first | rfl | (simp [errW_none, errW_some] <;> rfl) | (simp [*, errW_none, errW_some] <;> rfl), by repeat (first | (with_reducible first | exact HB.out | apply below_alloc | apply pw_below_drewN | apply below_drew1 | refine below_set ?_ GE262.out) | exact HB.out)⟩
 ·rw [if_neg c2] at H
  have c2b0 : decide (64 < (l0_0.length : Int)) = false := decide_eq_false c2; have c2b1 : decide (64 < l0_0.length) = false := decide_eq_false (by omega); clear c2; have H' := Aside0.mk H; clear H
  go_enter Try.func58, Try.ntmps58
  go_wp2_with (first | ((with_reducible refine gate_dst (N := 1) rfl ?_); (try (refine gate_guard (by rfl) ?_; dsimp only)); refine box_event ?hg (N := 1) ?hd (cs := #[.slice A0_0 l0_0.length c0_0, .slice A0_1 l0_1.length c0_1]) (t := 25) ?hr ?_; (case hd => rfl); (case hg => rfl); (case hr => first | (go_simp; done) | (go_simp; rfl)); intro gb262 hg w5 hbox hb; have n0_ := Aside0.mk (below_step (by repeat (first | (with_reducible first | exact HB.out | apply below_alloc | apply pw_below_drewN | apply below_drew1) | exact HB.out)) hb); have n1_ := Aside0.mk (hbox); have n2_ := Aside0.mk ((by rw [hg]; exact (below_size (by repeat (first | (with_reducible first | exact HB.out | apply below_alloc | apply pw_below_drewN | apply below_drew1) | exact HB.out))) : w.heap.size ≤ gb262)); have n3_ := Aside0.mk ((by rw [hg]; exact (below_size (by repeat (first | (with_reducible first | exact HB.out | apply below_alloc | apply pw_below_drewN | apply below_drew1) | exact HB.out))) : w.heap.size ≤ gb262)); clear HB; have HB := n0_; have BK262 := n1_; have GW262 := n2_; have GE262 := n3_; clear n0_ n1_ n2_ n3_; clear hb hbox hg; have hcz6_0 : w5.cell? ⟨gb262, 0, none⟩ = some (.slice A0_0 l0_0.length c0_0) := (blk_cell BK262.out 0).trans rfl; have hcz6_1 : w5.cell? ⟨gb262, 1, none⟩ = some (.slice A0_1 l0_1.length c0_1) := (blk_cell BK262.out 1).trans rfl; have hfz6_0 := blk_frozen BK262.out 0; have hfz6_1 := blk_frozen BK262.out 1))
  repeat (go_quiet (first | ((with_reducible refine gate_dst (N := 1) rfl ?_); (try (refine gate_guard (by rfl) ?_; dsimp only)); refine box_event ?hg (N := 1) ?hd (cs := #[.slice A0_0 l0_0.length c0_0, .slice A0_1 l0_1.length c0_1]) (t := 25) ?hr ?_; (case hd => rfl); (case hg => rfl); (case hr => first | (go_simp; done) | (go_simp; rfl)); intro gb262 hg w5 hbox hb; have n0_ := Aside0.mk (below_step (by repeat (first | (with_reducible first | exact HB.out | apply below_alloc | apply pw_below_drewN | apply below_drew1) | exact HB.out)) hb); have n1_ := Aside0.mk (hbox); have n2_ := Aside0.mk ((by rw [hg]; exact (below_size (by repeat (first | (with_reducible first | exact HB.out | apply below_alloc | apply pw_below_drewN | apply below_drew1) | exact HB.out))) : w.heap.size ≤ gb262)); have n3_ := Aside0.mk ((by rw [hg]; exact (below_size (by repeat (first | (with_reducible first | exact HB.out | apply below_alloc | apply pw_below_drewN | apply below_drew1) | exact HB.out))) : w.heap.size ≤ gb262)); clear HB; have HB := n0_; have BK262 := n1_; have GW262 := n2_; have GE262 := n3_; clear n0_ n1_ n2_ n3_; clear hb hbox hg; have hcz6_0 : w5.cell? ⟨gb262, 0, none⟩ = some (.slice A0_0 l0_0.length c0_0) := (blk_cell BK262.out 0).trans rfl; have hcz6_1 : w5.cell? ⟨gb262, 1, none⟩ = some (.slice A0_1 l0_1.length c0_1) := (blk_cell BK262.out 1).trans rfl; have hfz6_0 := blk_frozen BK262.out 0; have hfz6_1 := blk_frozen BK262.out 1)); try go_wp2_with (first | ((with_reducible refine gate_dst (N := 1) rfl ?_); (try (refine gate_guard (by rfl) ?_; dsimp only)); refine box_event ?hg (N := 1) ?hd (cs := #[.slice A0_0 l0_0.length c0_0, .slice A0_1 l0_1.length c0_1]) (t := 25) ?hr ?_; (case hd => rfl); (case hg => rfl); (case hr => first | (go_simp; done) | (go_simp; rfl)); intro gb262 hg w5 hbox hb; have n0_ := Aside0.mk (below_step (by repeat (first | (with_reducible first | exact HB.out | apply below_alloc | apply pw_below_drewN | apply below_drew1) | exact HB.out)) hb); have n1_ := Aside0.mk (hbox); have n2_ := Aside0.mk ((by rw [hg]; exact (below_size (by repeat (first | (with_reducible first | exact HB.out | apply below_alloc | apply pw_below_drewN | apply below_drew1) | exact HB.out))) : w.heap.size ≤ gb262)); have n3_ := Aside0.mk ((by rw [hg]; exact (below_size (by repeat (first | (with_reducible first | exact HB.out | apply below_alloc | apply pw_below_drewN | apply below_drew1) | exact HB.out))) : w.heap.size ≤ gb262)); clear HB; have HB := n0_; have BK262 := n1_; have GW262 := n2_; have GE262 := n3_; clear n0_ n1_ n2_ n3_; clear hb hbox hg; have hcz6_0 : w5.cell? ⟨gb262, 0, none⟩ = some (.slice A0_0 l0_0.length c0_0) := (blk_cell BK262.out 0).trans rfl; have hcz6_1 : w5.cell? ⟨gb262, 1, none⟩ = some (.slice A0_1 l0_1.length c0_1) := (blk_cell BK262.out 1).trans rfl; have hfz6_0 := blk_frozen BK262.out 0; have hfz6_1 := blk_frozen BK262.out 1)))
  go_loopg [3] k (fun kq v3 w' => ∃ (x3_1 : Int), v3 = .int .i64 x3_1 ∧ Aside0 (signatoryref23_Check.l0 kq x3_1 l0_0 l0_1 = some r) ∧ Aside0 (kq ≤ k) ∧ Aside0 (w'.heap[gb262]? = some (.cells #[(.slice A0_0 l0_0.length c0_0), (.slice A0_1 l0_1.length c0_1)] 25 (0, 0))) ∧ Aside0 (Below w.heap.size w w'))
  case atStart => exact ⟨(0), (by first | rfl | (simp; done) | (simp [*]; done)), H', ⟨Nat.le_refl _⟩, ⟨by (with_reducible repeat (first | refine blk_drewN ?_ _ | refine blk_drew ?_ | refine blk_alloc ?_ _)); exact BK262.out⟩, ⟨by repeat (first | (with_reducible first | exact HB.out | apply below_alloc | apply pw_below_drewN | apply below_drew1 | refine below_set ?_ GE262.out) | exact HB.out)⟩⟩
  case round =>
   clear H'; (try clear c2); (try clear c2b0); (try clear c2b1); (try clear p2); (try clear c5); (try clear hcz4_0); (try clear hcz4_1); (try clear hcz6_0); (try clear hcz6_1); (try clear hfz4_0); (try clear hfz4_1); (try clear hfz6_0); (try clear hfz6_1); obtain ⟨x3_1, rfl, HA, HK1, BK262, HB⟩ := hrel
   cases gk with
   | zero => exact absurd HA.out (by simp [signatoryref23_Check.l0])
   | succ k1 =>
    have H := HA.out; clear HA; simp only [signatoryref23_Check.l0] at H
    by_cases c7 : x3_1 < (l0_0.length : Int)
    ·rw [if_pos c7] at H
     have c7b0 : decide (x3_1 < (l0_0.length : Int)) = true := decide_eq_true c7; clear c7
     by_cases c8 : 0 ≤ x3_1
     ·rw [if_pos c8] at H
      have c8b0 : decide (0 ≤ x3_1) = true := decide_eq_true c8; clear c8
      by_cases c9 : ((rd_L1 l0_0 x3_1).length : Int) > 64
      ·rw [if_pos c9] at H
       have c9b0 : decide (64 < ((rd_L1 l0_0 x3_1).length : Int)) = true := decide_eq_true c9; have c9b1 : decide (64 < (rd_L1 l0_0 x3_1).length) = true := decide_eq_true (by omega); clear c9; obtain rfl := Option.some.inj H; have hcz10_0 : wr.cell? ⟨gb262, 0, none⟩ = some (.slice A0_0 l0_0.length c0_0) := (blk_cell BK262.out 0).trans rfl; have hcz10_1 : wr.cell? ⟨gb262, 1, none⟩ = some (.slice A0_1 l0_1.length c0_1) := (blk_cell BK262.out 1).trans rfl; have hfz10_0 := blk_frozen BK262.out 0; have hfz10_1 := blk_frozen BK262.out 1; have p263 : 0 ≤ (x3_1 : Int) := of_decide_eq_true (by first | (with_reducible assumption) | assumption); have q263 : x3_1 < (l0_0.length : Int) := of_decide_eq_true (by first | (with_reducible assumption) | assumption); obtain ⟨ad263, A263_0, c263_0, e263, hx263_0, hl263_0, hi263_0⟩ := at_L1 HR0_0.out x3_1 p263 q263; cases e263; replace hx263_0 := (HB.out.cell (World.block_lt_of_cell? w _ hx263_0)).trans hx263_0; have HR263_0 := Aside0.mk hi263_0; have HC263_0 := Aside0.mk hl263_0; clear hi263_0 hl263_0; replace p263 := eq_true p263; replace q263 := eq_true q263; go_wp2
       repeat (go_quiet (fail); try go_wp2)
       go_ret
       exact ⟨by first | rfl | (simp [errW_none, errW_some] <;> rfl) | (simp [*, errW_none, errW_some] <;> rfl), by repeat (first | (with_reducible first | exact HB.out | apply below_alloc | apply pw_below_drewN | apply below_drew1 | refine below_set ?_ GE262.out) | exact HB.out)⟩
      ·rw [if_neg c9] at H
       have c9b0 : decide (64 < ((rd_L1 l0_0 x3_1).length : Int)) = false := decide_eq_false c9; have c9b1 : decide (64 < (rd_L1 l0_0 x3_1).length) = false := decide_eq_false (by omega); clear c9; have H' := Aside0.mk H; clear H; have hcz11_0 : wr.cell? ⟨gb262, 0, none⟩ = some (.slice A0_0 l0_0.length c0_0) := (blk_cell BK262.out 0).trans rfl; have hcz11_1 : wr.cell? ⟨gb262, 1, none⟩ = some (.slice A0_1 l0_1.length c0_1) := (blk_cell BK262.out 1).trans rfl; have hfz11_0 := blk_frozen BK262.out 0; have hfz11_1 := blk_frozen BK262.out 1; have p263 : 0 ≤ (x3_1 : Int) := of_decide_eq_true (by first | (with_reducible assumption) | assumption); have q263 : x3_1 < (l0_0.length : Int) := of_decide_eq_true (by first | (with_reducible assumption) | assumption); obtain ⟨ad263, A263_0, c263_0, e263, hx263_0, hl263_0, hi263_0⟩ := at_L1 HR0_0.out x3_1 p263 q263; cases e263; replace hx263_0 := (HB.out.cell (World.block_lt_of_cell? w _ hx263_0)).trans hx263_0; have HR263_0 := Aside0.mk hi263_0; have HC263_0 := Aside0.mk hl263_0; clear hi263_0 hl263_0; replace p263 := eq_true p263; replace q263 := eq_true q263; go_wp2
       repeat (go_quiet (fail); try go_wp2)
       go_roundg k1
       case measure => have := HK1.out; omega
       case rel => exact ⟨(wrap64 (x3_1 + 1)), (by first | rfl | (simp; done) | (simp [*]; done)), H', ⟨by have := HK1.out; omega⟩, ⟨by (with_reducible repeat (first | refine blk_drewN ?_ _ | refine blk_drew ?_ | refine blk_alloc ?_ _)); exact BK262.out⟩, ⟨by repeat (first | (with_reducible first | exact HB.out | apply below_alloc | apply pw_below_drewN | apply below_drew1 | refine below_set ?_ GE262.out) | exact HB.out)⟩⟩
     ·rw [if_neg c8] at H
      exact absurd H (by simp)
    ·rw [if_neg c7] at H
     have c7b0 : decide (x3_1 < (l0_0.length : Int)) = false := decide_eq_false c7; clear c7
     by_cases c12 : (l0_0.length : Int) = (l0_1.length : Int)
     ·rw [if_pos c12] at H
      have c12b0 : ((l0_0.length : Int) == (l0_1.length : Int)) = true := beq_iff_eq.mpr c12; have c12b1 : ((l0_0.length : Int) != (l0_1.length : Int)) = false := bne_eq_false_iff_eq.mpr c12
      have c12b2 : (l0_0.length == l0_1.length) = true := by first | simpa using c12 | (simp at c12 ⊢; omega)
      clear c12; have H' := Aside0.mk H; clear H; have hcz13_0 : wr.cell? ⟨gb262, 0, none⟩ = some (.slice A0_0 l0_0.length c0_0) := (blk_cell BK262.out 0).trans rfl; have hcz13_1 : wr.cell? ⟨gb262, 1, none⟩ = some (.slice A0_1 l0_1.length c0_1) := (blk_cell BK262.out 1).trans rfl; have hfz13_0 := blk_frozen BK262.out 0; have hfz13_1 := blk_frozen BK262.out 1; go_wp2
      repeat (go_quiet (fail); try go_wp2)
      go_loopg [4] k1 (fun kq v4 w' => ∃ (x4_2 : Int), v4 = .int .i64 x4_2 ∧ Aside0 (signatoryref23_Check.l1 kq x4_2 l0_0 l0_1 = some r) ∧ Aside0 (kq ≤ k1) ∧ Aside0 (w'.heap[gb262]? = some (.cells #[(.slice A0_0 l0_0.length c0_0), (.slice A0_1 l0_1.length c0_1)] 25 (0, 0))) ∧ Aside0 (Below w.heap.size w w'))
      case atStart => exact ⟨(0), (by first | rfl | (simp; done) | (simp [*]; done)), H', ⟨Nat.le_refl _⟩, ⟨by (with_reducible repeat (first | refine blk_drewN ?_ _ | refine blk_drew ?_ | refine blk_alloc ?_ _)); exact BK262.out⟩, ⟨by repeat (first | (with_reducible first | exact HB.out | apply below_alloc | apply pw_below_drewN | apply below_drew1 | refine below_set ?_ GE262.out) | exact HB.out)⟩⟩
      case round =>
       clear H'; (try clear c1); (try clear c2); (try clear c2b0); (try clear c2b1); (try clear p2); (try clear q2); (try clear hx2); (try clear c5); (try clear p6); (try clear c7); (try clear c7b0); (try clear c8); (try clear c8b0); (try clear c9); (try clear c9b0); (try clear c9b1); (try clear c12); (try clear c12b0); (try clear c12b1); (try clear c12b2); (try clear hcz10_0); (try clear hcz10_1); (try clear hcz11_0); (try clear hcz11_1); (try clear hcz13_0); (try clear hcz13_1); (try clear hcz4_0); (try clear hcz4_1); (try clear hcz6_0); (try clear hcz6_1); (try clear hfz10_0); (try clear hfz10_1); (try clear hfz11_0); (try clear hfz11_1); (try clear hfz13_0); (try clear hfz13_1); (try clear hfz4_0); (try clear hfz4_1); (try clear hfz6_0); (try clear hfz6_1); (try clear hx263_0); (try clear p2); (try clear p263); (try clear q263); obtain ⟨x4_2, rfl, HA, HK2, BK262, HB⟩ := hrel
       cases gk with
       | zero => exact absurd HA.out (by simp [signatoryref23_Check.l1])
       | succ k2 =>
        have H := HA.out; clear HA; simp only [signatoryref23_Check.l1] at H
        by_cases c14 : x4_2 < (l0_0.length : Int)
        ·rw [if_pos c14] at H
         have c14b0 : decide (x4_2 < (l0_0.length : Int)) = true := decide_eq_true c14; clear c14; have HC15 := Aside0.mk H; clear H; have hcz16_0 : wr.cell? ⟨gb262, 0, none⟩ = some (.slice A0_0 l0_0.length c0_0) := (blk_cell BK262.out 0).trans rfl; have hcz16_1 : wr.cell? ⟨gb262, 1, none⟩ = some (.slice A0_1 l0_1.length c0_1) := (blk_cell BK262.out 1).trans rfl; have hfz16_0 := blk_frozen BK262.out 0; have hfz16_1 := blk_frozen BK262.out 1
         go_upto_region 13 with (fail)
         repeat (go_quiet (fail); go_upto_region 13 with (fail))
         go_cut [74] (fun v74 wc => ∃ (kq : Nat) (x74_14 : Bool), v74 = .bool x74_14 ∧ Aside0 (signatoryref23_Check.j2 kq x4_2 x74_14 l0_0 l0_1 = some r) ∧ Aside0 (kq ≤ k2) ∧ Aside0 (wc.heap[gb262]? = some (.cells #[(.slice A0_0 l0_0.length c0_0), (.slice A0_1 l0_1.length c0_1)] 25 (0, 0))) ∧ Aside0 (Below w.heap.size w wc))
         case first =>
          have H := HC15.out; clear HC15
          by_cases c17 : 0 ≤ x4_2
          ·rw [if_pos c17] at H
           have c17b0 : decide (0 ≤ x4_2) = true := decide_eq_true c17; clear c17
           (first | rw [c17b0] | (simp only [i64_w, i32_w]; rw [c17b0]) | skip)
           by_cases c18 : ((rd_L1 l0_0 x4_2).length : Int) < 1
           ·rw [if_pos c18] at H
            have c18b0 : decide (((rd_L1 l0_0 x4_2).length : Int) < 1) = true := decide_eq_true c18; have c18b1 : decide ((rd_L1 l0_0 x4_2).length < 1) = true := decide_eq_true (by omega); clear c18; have H' := Aside0.mk H; clear H; have hcz19_0 : wr.cell? ⟨gb262, 0, none⟩ = some (.slice A0_0 l0_0.length c0_0) := (blk_cell BK262.out 0).trans rfl; have hcz19_1 : wr.cell? ⟨gb262, 1, none⟩ = some (.slice A0_1 l0_1.length c0_1) := (blk_cell BK262.out 1).trans rfl; have hfz19_0 := blk_frozen BK262.out 0; have hfz19_1 := blk_frozen BK262.out 1; have p264 : 0 ≤ (x4_2 : Int) := of_decide_eq_true (by first | (with_reducible assumption) | assumption); have q264 : x4_2 < (l0_0.length : Int) := of_decide_eq_true (by first | (with_reducible assumption) | assumption); obtain ⟨ad264, A264_0, c264_0, e264, hx264_0, hl264_0, hi264_0⟩ := at_L1 HR0_0.out x4_2 p264 q264; cases e264; replace hx264_0 := (HB.out.cell (World.block_lt_of_cell? w _ hx264_0)).trans hx264_0; have HR264_0 := Aside0.mk hi264_0; have HC264_0 := Aside0.mk hl264_0; clear hi264_0 hl264_0; replace p264 := eq_true p264; replace q264 := eq_true q264; go_wp2
            repeat (go_quiet (fail); try go_wp2)
            go_meet
            case rel => exact ⟨_, (true), (by first | rfl | (simp; done) | (simp [*]; done)), H', ⟨by have := HK1.out; have := HK2.out; first | omega | exact Nat.le_refl _⟩, ⟨by (with_reducible repeat (first | refine blk_drewN ?_ _ | refine blk_drew ?_ | refine blk_alloc ?_ _)); exact BK262.out⟩, ⟨by repeat (first | (with_reducible first | exact HB.out | apply below_alloc | apply pw_below_drewN | apply below_drew1 | refine below_set ?_ GE262.out) | exact HB.out)⟩⟩
           ·rw [if_neg c18] at H
            have c18b0 : decide (((rd_L1 l0_0 x4_2).length : Int) < 1) = false := decide_eq_false c18; have c18b1 : decide ((rd_L1 l0_0 x4_2).length < 1) = false := decide_eq_false (by omega); clear c18
            by_cases c20 : 0 < (l0_0.length : Int)
            ·rw [if_pos c20] at H
             have c20b0 : decide (0 < (l0_0.length : Int)) = true := decide_eq_true c20; have c20b1 : decide (0 < l0_0.length) = true := decide_eq_true (by omega); clear c20
             by_cases c21 : ((rd_L1 l0_0 x4_2).length : Int) = ((rd_L1 l0_0 0).length : Int)
             ·rw [if_pos c21] at H
              have c21b0 : (((rd_L1 l0_0 x4_2).length : Int) == ((rd_L1 l0_0 0).length : Int)) = true := beq_iff_eq.mpr c21; have c21b1 : (((rd_L1 l0_0 x4_2).length : Int) != ((rd_L1 l0_0 0).length : Int)) = false := bne_eq_false_iff_eq.mpr c21
              have c21b2 : ((rd_L1 l0_0 x4_2).length == (rd_L1 l0_0 0).length) = true := by first | simpa using c21 | (simp at c21 ⊢; omega)
              clear c21
              by_cases c22 : x4_2 < (l0_1.length : Int)
              ·rw [if_pos c22] at H
               have c22b0 : decide (x4_2 < (l0_1.length : Int)) = true := decide_eq_true c22; clear c22
               by_cases c23 : (rd l0_1 x4_2) < 0
               ·rw [if_pos c23] at H
                have c23b0 : decide ((rd l0_1 x4_2) < 0) = true := decide_eq_true c23; clear c23; have H' := Aside0.mk H; clear H; have hcz24_0 : wr.cell? ⟨gb262, 0, none⟩ = some (.slice A0_0 l0_0.length c0_0) := (blk_cell BK262.out 0).trans rfl; have hcz24_1 : wr.cell? ⟨gb262, 1, none⟩ = some (.slice A0_1 l0_1.length c0_1) := (blk_cell BK262.out 1).trans rfl; have hfz24_0 := blk_frozen BK262.out 0; have hfz24_1 := blk_frozen BK262.out 1; have p264 : 0 ≤ (x4_2 : Int) := of_decide_eq_true (by first | (with_reducible assumption) | assumption); have q264 : x4_2 < (l0_0.length : Int) := of_decide_eq_true (by first | (with_reducible assumption) | assumption); obtain ⟨ad264, A264_0, c264_0, e264, hx264_0, hl264_0, hi264_0⟩ := at_L1 HR0_0.out x4_2 p264 q264; cases e264; replace hx264_0 := (HB.out.cell (World.block_lt_of_cell? w _ hx264_0)).trans hx264_0; have HR264_0 := Aside0.mk hi264_0; have HC264_0 := Aside0.mk hl264_0; clear hi264_0 hl264_0; replace p264 := eq_true p264; replace q264 := eq_true q264; have p265 : 0 ≤ (x4_2 : Int) := of_decide_eq_true (by first | (with_reducible assumption) | assumption); have q265 : x4_2 < (l0_0.length : Int) := of_decide_eq_true (by first | (with_reducible assumption) | assumption); obtain ⟨ad265, A265_0, c265_0, e265, hx265_0, hl265_0, hi265_0⟩ := at_L1 HR0_0.out x4_2 p265 q265
                obtain rfl : ad264 = ad265 := (by injection e265)
                replace hx265_0 := (HB.out.cell (World.block_lt_of_cell? w _ hx265_0)).trans hx265_0; have HR265_0 := Aside0.mk hi265_0; have HC265_0 := Aside0.mk hl265_0; clear hi265_0 hl265_0; replace p265 := eq_true p265; replace q265 := eq_true q265; have ea_ := Option.some.inj (hx264_0.symm.trans hx265_0); injection ea_ with ea_ en_ ec_; subst ea_; subst ec_; clear en_
                have p266 : 0 ≤ (0 : Int) := (by omega)
                have q266 : 0 < (l0_0.length : Int) := of_decide_eq_true (by first | (with_reducible assumption) | assumption); obtain ⟨ad266, A266_0, c266_0, e266, hx266_0, hl266_0, hi266_0⟩ := at_L1 HR0_0.out 0 p266 q266
                obtain rfl : ad264 = ad266 := (by injection e266)
                have qi266 : (0 < l0_0.length) = True := eq_true (by omega); (try rw [show ((0 : Int)).toNat = 0 from rfl] at hx266_0); (try rw [Addr.add_zero'] at hx266_0); replace hx266_0 := (HB.out.cell (World.block_lt_of_cell? w _ hx266_0)).trans hx266_0; have HR266_0 := Aside0.mk hi266_0; have HC266_0 := Aside0.mk hl266_0; clear hi266_0 hl266_0; replace p266 := eq_true p266; replace q266 := eq_true q266; have p267 : 0 ≤ (x4_2 : Int) := of_decide_eq_true (by first | (with_reducible assumption) | assumption); have q267 : x4_2 < (l0_1.length : Int) := of_decide_eq_true (by first | (with_reducible assumption) | assumption); obtain ⟨ad267, e267, hx267_0⟩ := Kd.at_int HR0_1.out x4_2 p267 q267; cases e267; replace hx267_0 := (HB.out.cell (World.block_lt_of_cell? w _ hx267_0)).trans hx267_0; replace p267 := eq_true p267; replace q267 := eq_true q267; go_wp2
                repeat (go_quiet (fail); try go_wp2)
                go_meet
                case rel => exact ⟨_, (true), (by first | rfl | (simp; done) | (simp [*]; done)), H', ⟨by have := HK1.out; have := HK2.out; first | omega | exact Nat.le_refl _⟩, ⟨by (with_reducible repeat (first | refine blk_drewN ?_ _ | refine blk_drew ?_ | refine blk_alloc ?_ _)); exact BK262.out⟩, ⟨by repeat (first | (with_reducible first | exact HB.out | apply below_alloc | apply pw_below_drewN | apply below_drew1 | refine below_set ?_ GE262.out) | exact HB.out)⟩⟩
               ·rw [if_neg c23] at H
                have c23b0 : decide ((rd l0_1 x4_2) < 0) = false := decide_eq_false c23; clear c23; have H' := Aside0.mk H; clear H; have hcz25_0 : wr.cell? ⟨gb262, 0, none⟩ = some (.slice A0_0 l0_0.length c0_0) := (blk_cell BK262.out 0).trans rfl; have hcz25_1 : wr.cell? ⟨gb262, 1, none⟩ = some (.slice A0_1 l0_1.length c0_1) := (blk_cell BK262.out 1).trans rfl; have hfz25_0 := blk_frozen BK262.out 0; have hfz25_1 := blk_frozen BK262.out 1; have p264 : 0 ≤ (x4_2 : Int) := of_decide_eq_true (by first | (with_reducible assumption) | assumption); have q264 : x4_2 < (l0_0.length : Int) := of_decide_eq_true (by first | (with_reducible assumption) | assumption); obtain ⟨ad264, A264_0, c264_0, e264, hx264_0, hl264_0, hi264_0⟩ := at_L1 HR0_0.out x4_2 p264 q264; cases e264; replace hx264_0 := (HB.out.cell (World.block_lt_of_cell? w _ hx264_0)).trans hx264_0; have HR264_0 := Aside0.mk hi264_0; have HC264_0 := Aside0.mk hl264_0; clear hi264_0 hl264_0; replace p264 := eq_true p264; replace q264 := eq_true q264; have p265 : 0 ≤ (x4_2 : Int) := of_decide_eq_true (by first | (with_reducible assumption) | assumption); have q265 : x4_2 < (l0_0.length : Int) := of_decide_eq_true (by first | (with_reducible assumption) | assumption); obtain ⟨ad265, A265_0, c265_0, e265, hx265_0, hl265_0, hi265_0⟩ := at_L1 HR0_0.out x4_2 p265 q265
                obtain rfl : ad264 = ad265 := (by injection e265)
                replace hx265_0 := (HB.out.cell (World.block_lt_of_cell? w _ hx265_0)).trans hx265_0; have HR265_0 := Aside0.mk hi265_0; have HC265_0 := Aside0.mk hl265_0; clear hi265_0 hl265_0; replace p265 := eq_true p265; replace q265 := eq_true q265; have ea_ := Option.some.inj (hx264_0.symm.trans hx265_0); injection ea_ with ea_ en_ ec_; subst ea_; subst ec_; clear en_
                have p266 : 0 ≤ (0 : Int) := (by omega)
                have q266 : 0 < (l0_0.length : Int) := of_decide_eq_true (by first | (with_reducible assumption) | assumption); obtain ⟨ad266, A266_0, c266_0, e266, hx266_0, hl266_0, hi266_0⟩ := at_L1 HR0_0.out 0 p266 q266
                obtain rfl : ad264 = ad266 := (by injection e266)
                have qi266 : (0 < l0_0.length) = True := eq_true (by omega); (try rw [show ((0 : Int)).toNat = 0 from rfl] at hx266_0); (try rw [Addr.add_zero'] at hx266_0); replace hx266_0 := (HB.out.cell (World.block_lt_of_cell? w _ hx266_0)).trans hx266_0; have HR266_0 := Aside0.mk hi266_0; have HC266_0 := Aside0.mk hl266_0; clear hi266_0 hl266_0; replace p266 := eq_true p266; replace q266 := eq_true q266; have p267 : 0 ≤ (x4_2 : Int) := of_decide_eq_true (by first | (with_reducible assumption) | assumption); have q267 : x4_2 < (l0_1.length : Int) := of_decide_eq_true (by first | (with_reducible assumption) | assumption); obtain ⟨ad267, e267, hx267_0⟩ := Kd.at_int HR0_1.out x4_2 p267 q267; cases e267; replace hx267_0 := (HB.out.cell (World.block_lt_of_cell? w _ hx267_0)).trans hx267_0; replace p267 := eq_true p267; replace q267 := eq_true q267; have p268 : 0 ≤ (x4_2 : Int) := of_decide_eq_true (by first | (with_reducible assumption) | assumption); have q268 : x4_2 < (l0_1.length : Int) := of_decide_eq_true (by first | (with_reducible assumption) | assumption); obtain ⟨ad268, e268, hx268_0⟩ := Kd.at_int HR0_1.out x4_2 p268 q268
                obtain rfl : ad267 = ad268 := (by injection e268)
                replace hx268_0 := (HB.out.cell (World.block_lt_of_cell? w _ hx268_0)).trans hx268_0; replace p268 := eq_true p268; replace q268 := eq_true q268; go_wp2
                repeat (go_quiet (fail); try go_wp2)
                go_meet
                case rel => exact ⟨_, (decide ((rd l0_1 x4_2) ≥ 64)), (by first | rfl | (simp; done) | (simp [*]; done)), H', ⟨by have := HK1.out; have := HK2.out; first | omega | exact Nat.le_refl _⟩, ⟨by (with_reducible repeat (first | refine blk_drewN ?_ _ | refine blk_drew ?_ | refine blk_alloc ?_ _)); exact BK262.out⟩, ⟨by repeat (first | (with_reducible first | exact HB.out | apply below_alloc | apply pw_below_drewN | apply below_drew1 | refine below_set ?_ GE262.out) | exact HB.out)⟩⟩
              ·rw [if_neg c22] at H
               exact absurd H (by simp)
             ·rw [if_neg c21] at H
              have c21b0 : (((rd_L1 l0_0 x4_2).length : Int) == ((rd_L1 l0_0 0).length : Int)) = false := beq_eq_false_iff_ne.mpr c21; have c21b1 : (((rd_L1 l0_0 x4_2).length : Int) != ((rd_L1 l0_0 0).length : Int)) = true := bne_iff_ne.mpr c21
              have c21b2 : ((rd_L1 l0_0 x4_2).length == (rd_L1 l0_0 0).length) = false := by first | simpa using c21 | (simp at c21 ⊢; omega)
              have H' := Aside0.mk H; clear H; have hcz26_0 : wr.cell? ⟨gb262, 0, none⟩ = some (.slice A0_0 l0_0.length c0_0) := (blk_cell BK262.out 0).trans rfl; have hcz26_1 : wr.cell? ⟨gb262, 1, none⟩ = some (.slice A0_1 l0_1.length c0_1) := (blk_cell BK262.out 1).trans rfl; have hfz26_0 := blk_frozen BK262.out 0; have hfz26_1 := blk_frozen BK262.out 1; have p264 : 0 ≤ (x4_2 : Int) := of_decide_eq_true (by first | (with_reducible assumption) | assumption); have q264 : x4_2 < (l0_0.length : Int) := of_decide_eq_true (by first | (with_reducible assumption) | assumption); obtain ⟨ad264, A264_0, c264_0, e264, hx264_0, hl264_0, hi264_0⟩ := at_L1 HR0_0.out x4_2 p264 q264; cases e264; replace hx264_0 := (HB.out.cell (World.block_lt_of_cell? w _ hx264_0)).trans hx264_0; have HR264_0 := Aside0.mk hi264_0; have HC264_0 := Aside0.mk hl264_0; clear hi264_0 hl264_0; replace p264 := eq_true p264; replace q264 := eq_true q264; have p265 : 0 ≤ (x4_2 : Int) := of_decide_eq_true (by first | (with_reducible assumption) | assumption); have q265 : x4_2 < (l0_0.length : Int) := of_decide_eq_true (by first | (with_reducible assumption) | assumption); obtain ⟨ad265, A265_0, c265_0, e265, hx265_0, hl265_0, hi265_0⟩ := at_L1 HR0_0.out x4_2 p265 q265
              obtain rfl : ad264 = ad265 := (by injection e265)
              replace hx265_0 := (HB.out.cell (World.block_lt_of_cell? w _ hx265_0)).trans hx265_0; have HR265_0 := Aside0.mk hi265_0; have HC265_0 := Aside0.mk hl265_0; clear hi265_0 hl265_0; replace p265 := eq_true p265; replace q265 := eq_true q265; have ea_ := Option.some.inj (hx264_0.symm.trans hx265_0); injection ea_ with ea_ en_ ec_; subst ea_; subst ec_; clear en_
              have p266 : 0 ≤ (0 : Int) := (by omega)
              have q266 : 0 < (l0_0.length : Int) := of_decide_eq_true (by first | (with_reducible assumption) | assumption); obtain ⟨ad266, A266_0, c266_0, e266, hx266_0, hl266_0, hi266_0⟩ := at_L1 HR0_0.out 0 p266 q266
              obtain rfl : ad264 = ad266 := (by injection e266)
              have qi266 : (0 < l0_0.length) = True := eq_true (by omega); (try rw [show ((0 : Int)).toNat = 0 from rfl] at hx266_0); (try rw [Addr.add_zero'] at hx266_0); replace hx266_0 := (HB.out.cell (World.block_lt_of_cell? w _ hx266_0)).trans hx266_0; have HR266_0 := Aside0.mk hi266_0; have HC266_0 := Aside0.mk hl266_0; clear hi266_0 hl266_0; replace p266 := eq_true p266; replace q266 := eq_true q266; go_wp2
              repeat (go_quiet (fail); try go_wp2)
              go_meet
              case rel => exact ⟨_, (true), (by first | rfl | (simp; done) | (simp [*]; done)), H', ⟨by have := HK1.out; have := HK2.out; first | omega | exact Nat.le_refl _⟩, ⟨by (with_reducible repeat (first | refine blk_drewN ?_ _ | refine blk_drew ?_ | refine blk_alloc ?_ _)); exact BK262.out⟩, ⟨by repeat (first | (with_reducible first | exact HB.out | apply below_alloc | apply pw_below_drewN | apply below_drew1 | refine below_set ?_ GE262.out) | exact HB.out)⟩⟩
            ·rw [if_neg c20] at H
             exact absurd H (by simp)
          ·rw [if_neg c17] at H
           exact absurd H (by simp)
         case rest =>
          clear HC15; (try clear c1); (try clear c2); (try clear c2b0); (try clear c2b1); (try clear p2); (try clear q2); (try clear hx2); (try clear qi2); (try clear c5); (try clear p6); (try clear c7); (try clear c7b0); (try clear c8); (try clear c8b0); (try clear c9); (try clear c9b0); (try clear c9b1); (try clear c12); (try clear c12b0); (try clear c12b1); (try clear c12b2); (try clear c14); (try clear c14b0); (try clear c17); (try clear c17b0); (try clear c18); (try clear c18b0); (try clear c18b1); (try clear c20); (try clear c20b0); (try clear c20b1); (try clear c21); (try clear c21b0); (try clear c21b1); (try clear c21b2); (try clear c22); (try clear c22b0); (try clear c23); (try clear c23b0); (try clear c26); (try clear p26); (try clear q26); (try clear hx26); (try clear qi26); (try clear hcz10_0); (try clear hcz10_1); (try clear hcz11_0); (try clear hcz11_1); (try clear hcz13_0); (try clear hcz13_1); (try clear hcz16_0); (try clear hcz16_1); (try clear hcz19_0); (try clear hcz19_1); (try clear hcz24_0); (try clear hcz24_1); (try clear hcz25_0); (try clear hcz25_1); (try clear hcz26_0); (try clear hcz26_1); (try clear hcz4_0); (try clear hcz4_1); (try clear hcz6_0); (try clear hcz6_1); (try clear hfz10_0); (try clear hfz10_1); (try clear hfz11_0); (try clear hfz11_1); (try clear hfz13_0); (try clear hfz13_1); (try clear hfz16_0); (try clear hfz16_1); (try clear hfz19_0); (try clear hfz19_1); (try clear hfz24_0); (try clear hfz24_1); (try clear hfz25_0); (try clear hfz25_1); (try clear hfz26_0); (try clear hfz26_1); (try clear hfz4_0); (try clear hfz4_1); (try clear hfz6_0); (try clear hfz6_1); (try clear hx263_0); (try clear hx264_0); (try clear hx265_0); (try clear hx266_0); (try clear hx267_0); (try clear hx268_0); (try clear p2); (try clear p263); (try clear p264); (try clear p265); (try clear p266); (try clear p267); (try clear p268); (try clear p6); (try clear q2); (try clear q263); (try clear q264); (try clear q265); (try clear q266); (try clear q267); (try clear q268); obtain ⟨kq, x74_14, rfl, HA, HJ14, BK262, HB⟩ := hcut
          cases kq with
          | zero => exact absurd HA.out (by simp [signatoryref23_Check.j2])
          | succ kj14 =>
           have H := HA.out; clear HA; simp only [signatoryref23_Check.j2] at H
           by_cases c27 : x74_14 = true
           ·subst c27
            have H1 : (some 230) = some r := by rw [if_pos rfl] at H; exact H
            clear H; have H := H1; clear H1; obtain rfl := Option.some.inj H; go_wp2
            repeat (go_quiet (fail); try go_wp2)
            go_ret
            exact ⟨by first | rfl | (simp [errW_none, errW_some] <;> rfl) | (simp [*, errW_none, errW_some] <;> rfl), by repeat (first | (with_reducible first | exact HB.out | apply below_alloc | apply pw_below_drewN | apply below_drew1 | refine below_set ?_ GE262.out) | exact HB.out)⟩
           ·replace c27 := Bool.eq_false_iff.mpr c27
            subst c27
            have H1 : (signatoryref23_Check.l2 kj14 x4_2 0 l0_0 l0_1) = some r := by rw [if_neg (show ¬ (false = true) by decide)] at H; exact H
            clear H; have H := H1; clear H1; have H' := Aside0.mk H; clear H; go_wp2
            repeat (go_quiet (fail); try go_wp2)
            go_loopg [5] kj14 (fun kq v5 w' => ∃ (x5_4 : Int), v5 = .int .i64 x5_4 ∧ Aside0 (signatoryref23_Check.l2 kq x4_2 x5_4 l0_0 l0_1 = some r) ∧ Aside0 (kq ≤ kj14) ∧ Aside0 (w'.heap[gb262]? = some (.cells #[(.slice A0_0 l0_0.length c0_0), (.slice A0_1 l0_1.length c0_1)] 25 (0, 0))) ∧ Aside0 (Below w.heap.size w w'))
            case atStart => exact ⟨(0), (by first | rfl | (simp; done) | (simp [*]; done)), H', ⟨Nat.le_refl _⟩, ⟨by (with_reducible repeat (first | refine blk_drewN ?_ _ | refine blk_drew ?_ | refine blk_alloc ?_ _)); exact BK262.out⟩, ⟨by repeat (first | (with_reducible first | exact HB.out | apply below_alloc | apply pw_below_drewN | apply below_drew1 | refine below_set ?_ GE262.out) | exact HB.out)⟩⟩
            case round =>
             clear H'; (try clear c1); (try clear c2); (try clear c2b0); (try clear c2b1); (try clear p2); (try clear q2); (try clear hx2); (try clear qi2); (try clear c5); (try clear p6); (try clear c7); (try clear c7b0); (try clear c8); (try clear c8b0); (try clear c9); (try clear c9b0); (try clear c9b1); (try clear c12); (try clear c12b0); (try clear c12b1); (try clear c12b2); (try clear c14); (try clear c14b0); (try clear c17); (try clear c17b0); (try clear c18); (try clear c18b0); (try clear c18b1); (try clear c20); (try clear c20b0); (try clear c20b1); (try clear c21); (try clear c21b0); (try clear c21b1); (try clear c21b2); (try clear c22); (try clear c22b0); (try clear c23); (try clear c23b0); (try clear c26); (try clear p26); (try clear q26); (try clear hx26); (try clear qi26); (try clear c27); (try clear hcz10_0); (try clear hcz10_1); (try clear hcz11_0); (try clear hcz11_1); (try clear hcz13_0); (try clear hcz13_1); (try clear hcz16_0); (try clear hcz16_1); (try clear hcz19_0); (try clear hcz19_1); (try clear hcz24_0); (try clear hcz24_1); (try clear hcz25_0); (try clear hcz25_1); (try clear hcz26_0); (try clear hcz26_1); (try clear hcz4_0); (try clear hcz4_1); (try clear hcz6_0); (try clear hcz6_1); (try clear hfz10_0); (try clear hfz10_1); (try clear hfz11_0); (try clear hfz11_1); (try clear hfz13_0); (try clear hfz13_1); (try clear hfz16_0); (try clear hfz16_1); (try clear hfz19_0); (try clear hfz19_1); (try clear hfz24_0); (try clear hfz24_1); (try clear hfz25_0); (try clear hfz25_1); (try clear hfz26_0); (try clear hfz26_1); (try clear hfz4_0); (try clear hfz4_1); (try clear hfz6_0); (try clear hfz6_1); (try clear hx263_0); (try clear hx264_0); (try clear hx265_0); (try clear hx266_0); (try clear hx267_0); (try clear hx268_0); (try clear p2); (try clear p26); (try clear p263); (try clear p264); (try clear p265); (try clear p266); (try clear p267); (try clear p268); (try clear p6); (try clear q2); (try clear q26); (try clear q263); (try clear q264); (try clear q265); (try clear q266); (try clear q267); (try clear q268); obtain ⟨x5_4, rfl, HA, HK4, BK262, HB⟩ := hrel
             cases gk with
             | zero => exact absurd HA.out (by simp [signatoryref23_Check.l2])
             | succ k4 =>
              have H := HA.out; clear HA; simp only [signatoryref23_Check.l2] at H
              by_cases c28 : 0 ≤ x4_2
              ·rw [if_pos c28] at H
               have c28b0 : decide (0 ≤ x4_2) = true := decide_eq_true c28; clear c28
               by_cases c29 : x4_2 < (l0_0.length : Int)
               ·rw [if_pos c29] at H
                have c29b0 : decide (x4_2 < (l0_0.length : Int)) = true := decide_eq_true c29; clear c29
                by_cases c30 : x5_4 < ((rd_L1 l0_0 x4_2).length : Int)
                ·rw [if_pos c30] at H
                 have c30b0 : decide (x5_4 < ((rd_L1 l0_0 x4_2).length : Int)) = true := decide_eq_true c30; clear c30
                 by_cases c31 : 0 ≤ x5_4
                 ·rw [if_pos c31] at H
                  have c31b0 : decide (0 ≤ x5_4) = true := decide_eq_true c31; clear c31
                  by_cases c32 : (rd (rd_L1 l0_0 x4_2) x5_4) < 0
                  ·rw [if_pos c32] at H
                   have c32b0 : decide ((rd (rd_L1 l0_0 x4_2) x5_4) < 0) = true := decide_eq_true c32; clear c32; obtain rfl := Option.some.inj H; have hcz33_0 : wr.cell? ⟨gb262, 0, none⟩ = some (.slice A0_0 l0_0.length c0_0) := (blk_cell BK262.out 0).trans rfl; have hcz33_1 : wr.cell? ⟨gb262, 1, none⟩ = some (.slice A0_1 l0_1.length c0_1) := (blk_cell BK262.out 1).trans rfl; have hfz33_0 := blk_frozen BK262.out 0; have hfz33_1 := blk_frozen BK262.out 1; have p269 : 0 ≤ (x4_2 : Int) := of_decide_eq_true (by first | (with_reducible assumption) | assumption); have q269 : x4_2 < (l0_0.length : Int) := of_decide_eq_true (by first | (with_reducible assumption) | assumption); obtain ⟨ad269, A269_0, c269_0, e269, hx269_0, hl269_0, hi269_0⟩ := at_L1 HR0_0.out x4_2 p269 q269; cases e269; replace hx269_0 := (HB.out.cell (World.block_lt_of_cell? w _ hx269_0)).trans hx269_0; have HR269_0 := Aside0.mk hi269_0; have HC269_0 := Aside0.mk hl269_0; clear hi269_0 hl269_0; replace p269 := eq_true p269; replace q269 := eq_true q269; have p270 : 0 ≤ (x4_2 : Int) := of_decide_eq_true (by first | (with_reducible assumption) | assumption); have q270 : x4_2 < (l0_0.length : Int) := of_decide_eq_true (by first | (with_reducible assumption) | assumption); obtain ⟨ad270, A270_0, c270_0, e270, hx270_0, hl270_0, hi270_0⟩ := at_L1 HR0_0.out x4_2 p270 q270
                   obtain rfl : ad269 = ad270 := (by injection e270)
                   replace hx270_0 := (HB.out.cell (World.block_lt_of_cell? w _ hx270_0)).trans hx270_0; have HR270_0 := Aside0.mk hi270_0; have HC270_0 := Aside0.mk hl270_0; clear hi270_0 hl270_0; replace p270 := eq_true p270; replace q270 := eq_true q270; have ea_ := Option.some.inj (hx269_0.symm.trans hx270_0); injection ea_ with ea_ en_ ec_; subst ea_; subst ec_; clear en_; have p271 : 0 ≤ (x5_4 : Int) := of_decide_eq_true (by first | (with_reducible assumption) | assumption); have q271 : x5_4 < ((rd_L1 l0_0 x4_2).length : Int) := of_decide_eq_true (by first | (with_reducible assumption) | assumption); obtain ⟨ad271, e271, hx271_0⟩ := Kd.at_int HR270_0.out x5_4 p271 q271; cases e271; replace hx271_0 := (HB.out.cell (World.block_lt_of_cell? w _ hx271_0)).trans hx271_0; replace p271 := eq_true p271; replace q271 := eq_true q271; go_wp2
                   repeat (go_quiet (fail); try go_wp2)
                   go_ret
                   exact ⟨by first | rfl | (simp [errW_none, errW_some] <;> rfl) | (simp [*, errW_none, errW_some] <;> rfl), by repeat (first | (with_reducible first | exact HB.out | apply below_alloc | apply pw_below_drewN | apply below_drew1 | refine below_set ?_ GE262.out) | exact HB.out)⟩
                  ·rw [if_neg c32] at H
                   have c32b0 : decide ((rd (rd_L1 l0_0 x4_2) x5_4) < 0) = false := decide_eq_false c32; clear c32
                   by_cases c34 : (rd (rd_L1 l0_0 x4_2) x5_4) ≥ 1073741789
                   ·rw [if_pos c34] at H
                    have c34b0 : decide (1073741789 ≤ (rd (rd_L1 l0_0 x4_2) x5_4)) = true := decide_eq_true c34; clear c34; obtain rfl := Option.some.inj H; have hcz35_0 : wr.cell? ⟨gb262, 0, none⟩ = some (.slice A0_0 l0_0.length c0_0) := (blk_cell BK262.out 0).trans rfl; have hcz35_1 : wr.cell? ⟨gb262, 1, none⟩ = some (.slice A0_1 l0_1.length c0_1) := (blk_cell BK262.out 1).trans rfl; have hfz35_0 := blk_frozen BK262.out 0; have hfz35_1 := blk_frozen BK262.out 1; have p269 : 0 ≤ (x4_2 : Int) := of_decide_eq_true (by first | (with_reducible assumption) | assumption); have q269 : x4_2 < (l0_0.length : Int) := of_decide_eq_true (by first | (with_reducible assumption) | assumption); obtain ⟨ad269, A269_0, c269_0, e269, hx269_0, hl269_0, hi269_0⟩ := at_L1 HR0_0.out x4_2 p269 q269; cases e269; replace hx269_0 := (HB.out.cell (World.block_lt_of_cell? w _ hx269_0)).trans hx269_0; have HR269_0 := Aside0.mk hi269_0; have HC269_0 := Aside0.mk hl269_0; clear hi269_0 hl269_0; replace p269 := eq_true p269; replace q269 := eq_true q269; have p270 : 0 ≤ (x4_2 : Int) := of_decide_eq_true (by first | (with_reducible assumption) | assumption); have q270 : x4_2 < (l0_0.length : Int) := of_decide_eq_true (by first | (with_reducible assumption) | assumption); obtain ⟨ad270, A270_0, c270_0, e270, hx270_0, hl270_0, hi270_0⟩ := at_L1 HR0_0.out x4_2 p270 q270
                    obtain rfl : ad269 = ad270 := (by injection e270)
                    replace hx270_0 := (HB.out.cell (World.block_lt_of_cell? w _ hx270_0)).trans hx270_0; have HR270_0 := Aside0.mk hi270_0; have HC270_0 := Aside0.mk hl270_0; clear hi270_0 hl270_0; replace p270 := eq_true p270; replace q270 := eq_true q270; have ea_ := Option.some.inj (hx269_0.symm.trans hx270_0); injection ea_ with ea_ en_ ec_; subst ea_; subst ec_; clear en_; have p271 : 0 ≤ (x5_4 : Int) := of_decide_eq_true (by first | (with_reducible assumption) | assumption); have q271 : x5_4 < ((rd_L1 l0_0 x4_2).length : Int) := of_decide_eq_true (by first | (with_reducible assumption) | assumption); obtain ⟨ad271, e271, hx271_0⟩ := Kd.at_int HR270_0.out x5_4 p271 q271; cases e271; replace hx271_0 := (HB.out.cell (World.block_lt_of_cell? w _ hx271_0)).trans hx271_0; replace p271 := eq_true p271; replace q271 := eq_true q271; have p272 : 0 ≤ (x4_2 : Int) := of_decide_eq_true (by first | (with_reducible assumption) | assumption); have q272 : x4_2 < (l0_0.length : Int) := of_decide_eq_true (by first | (with_reducible assumption) | assumption); obtain ⟨ad272, A272_0, c272_0, e272, hx272_0, hl272_0, hi272_0⟩ := at_L1 HR0_0.out x4_2 p272 q272
                    obtain rfl : ad269 = ad272 := (by injection e272)
                    replace hx272_0 := (HB.out.cell (World.block_lt_of_cell? w _ hx272_0)).trans hx272_0; have HR272_0 := Aside0.mk hi272_0; have HC272_0 := Aside0.mk hl272_0; clear hi272_0 hl272_0; replace p272 := eq_true p272; replace q272 := eq_true q272; have ea_ := Option.some.inj (hx269_0.symm.trans hx272_0); injection ea_ with ea_ en_ ec_; subst ea_; subst ec_; clear en_; have p273 : 0 ≤ (x5_4 : Int) := of_decide_eq_true (by first | (with_reducible assumption) | assumption); have q273 : x5_4 < ((rd_L1 l0_0 x4_2).length : Int) := of_decide_eq_true (by first | (with_reducible assumption) | assumption); obtain ⟨ad273, e273, hx273_0⟩ := Kd.at_int HR272_0.out x5_4 p273 q273; cases e273; replace hx273_0 := (HB.out.cell (World.block_lt_of_cell? w _ hx273_0)).trans hx273_0; replace p273 := eq_true p273; replace q273 := eq_true q273; go_wp2
                    repeat (go_quiet (fail); try go_wp2)
                    go_ret
                    exact ⟨by first | rfl | (simp [errW_none, errW_some] <;> rfl) | (simp [*, errW_none, errW_some] <;> rfl), by repeat (first | (with_reducible first | exact HB.out | apply below_alloc | apply pw_below_drewN | apply below_drew1 | refine below_set ?_ GE262.out) | exact HB.out)⟩
                   ·rw [if_neg c34] at H
                    have c34b0 : decide (1073741789 ≤ (rd (rd_L1 l0_0 x4_2) x5_4)) = false := decide_eq_false c34; clear c34; have H' := Aside0.mk H; clear H; have hcz36_0 : wr.cell? ⟨gb262, 0, none⟩ = some (.slice A0_0 l0_0.length c0_0) := (blk_cell BK262.out 0).trans rfl; have hcz36_1 : wr.cell? ⟨gb262, 1, none⟩ = some (.slice A0_1 l0_1.length c0_1) := (blk_cell BK262.out 1).trans rfl; have hfz36_0 := blk_frozen BK262.out 0; have hfz36_1 := blk_frozen BK262.out 1; have p269 : 0 ≤ (x4_2 : Int) := of_decide_eq_true (by first | (with_reducible assumption) | assumption); have q269 : x4_2 < (l0_0.length : Int) := of_decide_eq_true (by first | (with_reducible assumption) | assumption); obtain ⟨ad269, A269_0, c269_0, e269, hx269_0, hl269_0, hi269_0⟩ := at_L1 HR0_0.out x4_2 p269 q269; cases e269; replace hx269_0 := (HB.out.cell (World.block_lt_of_cell? w _ hx269_0)).trans hx269_0; have HR269_0 := Aside0.mk hi269_0; have HC269_0 := Aside0.mk hl269_0; clear hi269_0 hl269_0; replace p269 := eq_true p269; replace q269 := eq_true q269; have p270 : 0 ≤ (x4_2 : Int) := of_decide_eq_true (by first | (with_reducible assumption) | assumption); have q270 : x4_2 < (l0_0.length : Int) := of_decide_eq_true (by first | (with_reducible assumption) | assumption); obtain ⟨ad270, A270_0, c270_0, e270, hx270_0, hl270_0, hi270_0⟩ := at_L1 HR0_0.out x4_2 p270 q270
                    obtain rfl : ad269 = ad270 := (by injection e270)
                    replace hx270_0 := (HB.out.cell (World.block_lt_of_cell? w _ hx270_0)).trans hx270_0; have HR270_0 := Aside0.mk hi270_0; have HC270_0 := Aside0.mk hl270_0; clear hi270_0 hl270_0; replace p270 := eq_true p270; replace q270 := eq_true q270; have ea_ := Option.some.inj (hx269_0.symm.trans hx270_0); injection ea_ with ea_ en_ ec_; subst ea_; subst ec_; clear en_; have p271 : 0 ≤ (x5_4 : Int) := of_decide_eq_true (by first | (with_reducible assumption) | assumption); have q271 : x5_4 < ((rd_L1 l0_0 x4_2).length : Int) := of_decide_eq_true (by first | (with_reducible assumption) | assumption); obtain ⟨ad271, e271, hx271_0⟩ := Kd.at_int HR270_0.out x5_4 p271 q271; cases e271; replace hx271_0 := (HB.out.cell (World.block_lt_of_cell? w _ hx271_0)).trans hx271_0; replace p271 := eq_true p271; replace q271 := eq_true q271; have p272 : 0 ≤ (x4_2 : Int) := of_decide_eq_true (by first | (with_reducible assumption) | assumption); have q272 : x4_2 < (l0_0.length : Int) := of_decide_eq_true (by first | (with_reducible assumption) | assumption); obtain ⟨ad272, A272_0, c272_0, e272, hx272_0, hl272_0, hi272_0⟩ := at_L1 HR0_0.out x4_2 p272 q272
                    obtain rfl : ad269 = ad272 := (by injection e272)
                    replace hx272_0 := (HB.out.cell (World.block_lt_of_cell? w _ hx272_0)).trans hx272_0; have HR272_0 := Aside0.mk hi272_0; have HC272_0 := Aside0.mk hl272_0; clear hi272_0 hl272_0; replace p272 := eq_true p272; replace q272 := eq_true q272; have ea_ := Option.some.inj (hx269_0.symm.trans hx272_0); injection ea_ with ea_ en_ ec_; subst ea_; subst ec_; clear en_; have p273 : 0 ≤ (x5_4 : Int) := of_decide_eq_true (by first | (with_reducible assumption) | assumption); have q273 : x5_4 < ((rd_L1 l0_0 x4_2).length : Int) := of_decide_eq_true (by first | (with_reducible assumption) | assumption); obtain ⟨ad273, e273, hx273_0⟩ := Kd.at_int HR272_0.out x5_4 p273 q273; cases e273; replace hx273_0 := (HB.out.cell (World.block_lt_of_cell? w _ hx273_0)).trans hx273_0; replace p273 := eq_true p273; replace q273 := eq_true q273; go_wp2
                    repeat (go_quiet (fail); try go_wp2)
                    go_roundg k4
                    case measure => have := HK1.out; have := HK2.out; have := HJ14.out; have := HK4.out; omega
                    case rel => exact ⟨(wrap64 (x5_4 + 1)), (by first | rfl | (simp; done) | (simp [*]; done)), H', ⟨by have := HK1.out; have := HK2.out; have := HJ14.out; have := HK4.out; omega⟩, ⟨by (with_reducible repeat (first | refine blk_drewN ?_ _ | refine blk_drew ?_ | refine blk_alloc ?_ _)); exact BK262.out⟩, ⟨by repeat (first | (with_reducible first | exact HB.out | apply below_alloc | apply pw_below_drewN | apply below_drew1 | refine below_set ?_ GE262.out) | exact HB.out)⟩⟩
                 ·rw [if_neg c31] at H
                  exact absurd H (by simp)
                ·rw [if_neg c30] at H
                 have c30b0 : decide (x5_4 < ((rd_L1 l0_0 x4_2).length : Int)) = false := decide_eq_false c30; clear c30; have H' := Aside0.mk H; clear H; have hcz37_0 : wr.cell? ⟨gb262, 0, none⟩ = some (.slice A0_0 l0_0.length c0_0) := (blk_cell BK262.out 0).trans rfl; have hcz37_1 : wr.cell? ⟨gb262, 1, none⟩ = some (.slice A0_1 l0_1.length c0_1) := (blk_cell BK262.out 1).trans rfl; have hfz37_0 := blk_frozen BK262.out 0; have hfz37_1 := blk_frozen BK262.out 1; have p269 : 0 ≤ (x4_2 : Int) := of_decide_eq_true (by first | (with_reducible assumption) | assumption); have q269 : x4_2 < (l0_0.length : Int) := of_decide_eq_true (by first | (with_reducible assumption) | assumption); obtain ⟨ad269, A269_0, c269_0, e269, hx269_0, hl269_0, hi269_0⟩ := at_L1 HR0_0.out x4_2 p269 q269; cases e269; replace hx269_0 := (HB.out.cell (World.block_lt_of_cell? w _ hx269_0)).trans hx269_0; have HR269_0 := Aside0.mk hi269_0; have HC269_0 := Aside0.mk hl269_0; clear hi269_0 hl269_0; replace p269 := eq_true p269; replace q269 := eq_true q269; go_wp2
                 repeat (go_quiet (fail); try go_wp2)
                 go_roundg k4
                 case measure => have := HK1.out; have := HK2.out; have := HJ14.out; have := HK4.out; omega
                 case rel => exact ⟨(wrap64 (x4_2 + 1)), (by first | rfl | (simp; done) | (simp [*]; done)), H', ⟨by have := HK1.out; have := HK2.out; have := HJ14.out; have := HK4.out; omega⟩, ⟨by (with_reducible repeat (first | refine blk_drewN ?_ _ | refine blk_drew ?_ | refine blk_alloc ?_ _)); exact BK262.out⟩, ⟨by repeat (first | (with_reducible first | exact HB.out | apply below_alloc | apply pw_below_drewN | apply below_drew1 | refine below_set ?_ GE262.out) | exact HB.out)⟩⟩
               ·rw [if_neg c29] at H
                exact absurd H (by simp)
              ·rw [if_neg c28] at H
               exact absurd H (by simp)
        ·rw [if_neg c14] at H
         have c14b0 : decide (x4_2 < (l0_0.length : Int)) = false := decide_eq_false c14; clear c14; obtain rfl := Option.some.inj H; have hcz38_0 : wr.cell? ⟨gb262, 0, none⟩ = some (.slice A0_0 l0_0.length c0_0) := (blk_cell BK262.out 0).trans rfl; have hcz38_1 : wr.cell? ⟨gb262, 1, none⟩ = some (.slice A0_1 l0_1.length c0_1) := (blk_cell BK262.out 1).trans rfl; have hfz38_0 := blk_frozen BK262.out 0; have hfz38_1 := blk_frozen BK262.out 1; go_wp2
         repeat (go_quiet (fail); try go_wp2)
         go_ret
         exact ⟨by first | rfl | (simp [errW_none, errW_some] <;> rfl) | (simp [*, errW_none, errW_some] <;> rfl), by repeat (first | (with_reducible first | exact HB.out | apply below_alloc | apply pw_below_drewN | apply below_drew1 | refine below_set ?_ GE262.out) | exact HB.out)⟩
     ·rw [if_neg c12] at H
      have c12b0 : ((l0_0.length : Int) == (l0_1.length : Int)) = false := beq_eq_false_iff_ne.mpr c12; have c12b1 : ((l0_0.length : Int) != (l0_1.length : Int)) = true := bne_iff_ne.mpr c12
      have c12b2 : (l0_0.length == l0_1.length) = false := by first | simpa using c12 | (simp at c12 ⊢; omega)
      obtain rfl := Option.some.inj H; have hcz39_0 : wr.cell? ⟨gb262, 0, none⟩ = some (.slice A0_0 l0_0.length c0_0) := (blk_cell BK262.out 0).trans rfl; have hcz39_1 : wr.cell? ⟨gb262, 1, none⟩ = some (.slice A0_1 l0_1.length c0_1) := (blk_cell BK262.out 1).trans rfl; have hfz39_0 := blk_frozen BK262.out 0; have hfz39_1 := blk_frozen BK262.out 1; go_wp2
      repeat (go_quiet (fail); try go_wp2)
      go_ret
      exact ⟨by first | rfl | (simp [errW_none, errW_some] <;> rfl) | (simp [*, errW_none, errW_some] <;> rfl), by repeat (first | (with_reducible first | exact HB.out | apply below_alloc | apply pw_below_drewN | apply below_drew1 | refine below_set ?_ GE262.out) | exact HB.out)⟩
end Go.Proofs.Ytdbamhckgaoibaa.P
namespace Go.Proofs.Ytdbamhckgaoibaa.P
open Go.RowKit Go.Proofs.YtdbamhckgaoibaaW.PrintWords Go.Proofs.YtdbamhckgaoibaaW.PrintLast Go.Proofs.YtdbamhckgaoibaaW.PrintMore
theorem ref_l2 (rows : List (List Int)) (owners : List Int) (i : Nat) (hi : i < rows.length) (hl : (rows.getD i []).length < 1000000) (hn : rows.length < 1000000) (k : Nat) : ∀ d j, (rows.getD i []).length - j = d → j ≤ (rows.getD i []).length →
    signatoryref23_Check.l2 (k + d + 1) (i : Int) (j : Int) rows owners = if ((rows.getD i []).drop j).any outQ then some 230 else signatoryref23_Check.l1 k ((i + 1 : Nat) : Int) rows owners := by
  intro d
  induction d with
  | zero =>
    intro j hd hj
    obtain rfl : j = (rows.getD i []).length := by omega
    rw [signatoryref23_Check.l2, if_pos (by omega), if_pos (by omega), rd_L1_nat, if_neg (by omega), wrap_succ (by omega), List.drop_length]; rfl
  | succ d ih =>
    intro j hd hj
    have hjr : j < (rows.getD i []).length := by omega
    have e2 : (rows.getD i []).getD j 0 = (rows.getD i [])[j] := by rw [List.getD_eq_getElem?_getD, List.getElem?_eq_getElem hjr]; rfl
    rw [signatoryref23_Check.l2, if_pos (by omega), if_pos (by omega), rd_L1_nat, if_pos (by omega), if_pos (by omega), rd_nat, e2, List.drop_eq_getElem_cons hjr, List.any_cons]; generalize (rows.getD i [])[j] = x
    by_cases h1 : x < 0
    · rw [if_pos h1, outQ_low h1]; rfl
    · rw [if_neg h1]
      by_cases h2 : x ≥ 1073741789
      · rw [if_pos h2, outQ_high h1, decide_eq_true h2]; rfl
      · rw [if_neg h2, outQ_high h1, decide_eq_false (by omega), Bool.false_or, wrap_succ (by omega), ← Nat.add_assoc]
        exact ih (j + 1) (by omega) (by omega)
theorem ref_l1 (rows : List (List Int)) (owners : List Int) (ho : rows.length = owners.length) (hl : ∀ i, i < rows.length → (rows.getD i []).length ≤ 64) (hn : rows.length < 1000000) : ∀ d i k, rows.length - i = d → i ≤ rows.length → 70 * d + 1 ≤ k →
    signatoryref23_Check.l1 k (i : Int) rows owners = some (if goodFrom rows owners d i then 0 else 230) := by
  intro d
  induction d with
  | zero =>
    intro i k hd hi hk
    obtain ⟨k, rfl⟩ : ∃ k', k = k' + 1 := ⟨k - 1, by omega⟩
    rw [signatoryref23_Check.l1, if_neg (by omega)]; rfl
  | succ d ih =>
    intro i k hd hi hk; have hil := hl i (by omega)
    obtain ⟨k, rfl⟩ : ∃ k', k = k' + (rows.getD i []).length + 1 + 1 + 1 := ⟨k - (rows.getD i []).length - 3, by omega⟩
    rw [signatoryref23_Check.l1, if_pos (by omega), if_pos (by omega), rd_L1_nat, rdL0, rd_nat, goodFrom]; unfold goodAt
    by_cases h0 : (rows.getD i []).length = 0
    · have e0 : ((rows.getD i []).length != 0) = false := bne_eq_false_iff_eq.2 h0
      rw [if_pos (by omega), signatoryref23_Check.j2, if_pos rfl, e0]; rfl
    · have e0 : ((rows.getD i []).length != 0) = true := bne_iff_ne.2 h0
      rw [if_neg (by omega), if_pos (by omega), e0]
      by_cases h1 : (rows.getD i []).length = (rows.getD 0 []).length
      · have e1 : ((rows.getD i []).length == (rows.getD 0 []).length) = true := beq_iff_eq.2 h1
        rw [if_pos (by omega), if_pos (by omega), e1]; have hj := ref_l2 rows owners i (by omega) (by omega) hn k (rows.getD i []).length 0 (by omega) (by omega); rw [List.drop_zero, ih (i + 1) k (by omega) (by omega) (by omega)] at hj
        by_cases h2 : owners.getD i 0 < 0
        · rw [if_pos h2, signatoryref23_Check.j2, if_pos rfl, decide_eq_false (show ¬ 0 ≤ owners.getD i 0 by omega)]; rfl
        · rw [if_neg h2, signatoryref23_Check.j2, decide_eq_true (show 0 ≤ owners.getD i 0 by omega)]
          by_cases h3 : owners.getD i 0 ≥ 64
          · rw [decide_eq_true h3, if_pos rfl, decide_eq_false (show ¬ owners.getD i 0 ≤ 63 by omega)]; rfl
          · rw [decide_eq_false h3, if_neg (by decide), decide_eq_true (show owners.getD i 0 ≤ 63 by omega)]
            refine hj.trans ?_
            cases (rows.getD i []).any outQ <;> rfl
      · have e1 : ((rows.getD i []).length == (rows.getD 0 []).length) = false := beq_eq_false_iff_ne.2 h1
        rw [if_neg (by omega), signatoryref23_Check.j2, if_pos rfl, e1]; rfl
theorem ref_l0 (rows : List (List Int)) (owners : List Int) (hn : rows.length < 1000000) (k : Nat) : ∀ d j, rows.length - j = d → j ≤ rows.length →
    signatoryref23_Check.l0 (k + d + 1) (j : Int) rows owners = if (rows.drop j).any isLong then some 2 else if rows.length = owners.length then signatoryref23_Check.l1 k 0 rows owners else some 230 := by
  intro d
  induction d with
  | zero =>
    intro j hd hj
    obtain rfl : j = rows.length := by omega
    rw [signatoryref23_Check.l0, if_neg (by omega), List.drop_length]
    by_cases h : rows.length = owners.length
    · rw [if_pos (by omega), if_neg (by simp), if_pos h]
    · rw [if_neg (by omega), if_neg (by simp), if_neg h]
  | succ d ih =>
    intro j hd hj
    have hjr : j < rows.length := by omega
    have e2 : rows.getD j [] = rows[j] := by rw [List.getD_eq_getElem?_getD, List.getElem?_eq_getElem hjr]; rfl
    rw [signatoryref23_Check.l0, if_pos (by omega), if_pos (by omega), rd_L1_nat, e2, List.drop_eq_getElem_cons hjr, List.any_cons]; generalize rows[j] = x; unfold isLong
    by_cases h : 64 < x.length
    · rw [if_pos (by omega), decide_eq_true h]; rfl
    · rw [if_neg (by omega), decide_eq_false h, Bool.false_or, wrap_succ (by omega), ← Nat.add_assoc]
      exact ih (j + 1) (by omega) (by omega)
theorem refCheck_math (rows : List (List Int)) (owners : List Int) (k : Nat) (hk : 5000 ≤ k) : signatoryref23_Check.f k rows owners = some (checkP rows owners) := by
  unfold signatoryref23_Check.f checkP
  by_cases h : 64 < rows.length
  · rw [if_pos (by omega), decide_eq_true h]; rfl
  · rw [if_neg (by omega), decide_eq_false h, Bool.false_or]
    obtain ⟨k, rfl⟩ : ∃ k', k = k' + rows.length + 1 := ⟨k - rows.length - 1, by omega⟩
    have h0 := ref_l0 rows owners (by omega) k rows.length 0 (by omega) (by omega); rw [List.drop_zero] at h0; refine h0.trans ?_
    cases hl : rows.any isLong with
    | true => rfl
    | false =>
      by_cases ho : rows.length = owners.length
      · have hl' : ∀ i, i < rows.length → (rows.getD i []).length ≤ 64 := fun i hi => by
          have := List.any_eq_false.1 hl _ (Sig.getD_mem hi); unfold isLong at this; simp only [decide_eq_true_eq] at this; omega
        have h1 := ref_l1 rows owners ho hl' (by omega) rows.length 0 k (by omega) (by omega) (by omega); rw [if_neg (by decide), if_pos ho, if_neg (by decide), if_pos ho]; exact h1
      · rw [if_neg (by decide), if_neg ho, if_neg (by decide), if_neg ho]
end Go.Proofs.Ytdbamhckgaoibaa.P
namespace Go.Proofs.Ytdbamhckgaoibaa.P
open Go.RowKit Go.Proofs.YtdbamhckgaoibaaW.PrintWords Go.Proofs.YtdbamhckgaoibaaW.PrintLast Go.Proofs.YtdbamhckgaoibaaW.PrintMore
set_option linter.unusedVariables false
set_option linter.unusedSimpArgs false
theorem own_shrink {w : World} {base g n cap : Nat} {e : TypeId} {xs : List Value} (h : w.ownsRow base e 1 (.slice (some ⟨g, 0, none⟩) n cap) n xs) : w.ownsRow base e 1 (.slice (some ⟨g, 0, none⟩) 0 cap) 0 [] := by
  refine ⟨rfl, ?_⟩
  rcases h.2 with ⟨h1, _⟩ | ⟨g', cap', cur, h1, h2, h3, h4, h5, h6, h7⟩
  · cases h1
  · injection h1 with h1 _ h8
    injection h1 with h1; injection h1 with h1; subst h1 h8; exact .inr ⟨g, cap, cur, rfl, h2, h3, Nat.zero_le _, h5, h6, by simp⟩
theorem grow_form {n base : Nat} {w1 : World} {v1 : Value} (h0 : 0 < n) (h1 : Kd.R (Kd.int .i64) 3 w1 base (fun _ => True) v1 ([] ++ List.replicate (n : Int).toNat 0)) :
    ∃ gv cap, v1 = .slice (some ⟨gv, 0, none⟩) n cap ∧ Aside0 (w1.ownsRow base 3 1 (.slice (some ⟨gv, 0, none⟩) 0 cap) 0 []) := by
  obtain ⟨inner, ho⟩ := Kd.R_own h1
  have hle : (([] : List Int) ++ List.replicate (n : Int).toNat (0 : Int)).length = n := by simp
  rw [hle] at ho
  obtain ⟨gv, cap, rfl⟩ : ∃ gv cap, v1 = .slice (some ⟨gv, 0, none⟩) n cap := by
    rcases ho.2 with ⟨_, h⟩ | ⟨gv, cap, cur, h, _⟩
    · omega
    · exact ⟨gv, cap, h⟩
  exact ⟨gv, cap, rfl, ⟨own_shrink ho⟩⟩
theorem ReadsInt_of_C {w : World} {A : Option Addr} {n : Nat} {xs : List Int} (h : Kd.C (Kd.int .i64) w A n xs) : ReadsInt w .i64 A n xs :=
  ⟨h.1, h.2.1, fun hn => by
    obtain ⟨ad, e, hx⟩ := Kd.at_int h 0 (Int.le_refl _) (by omega); refine ⟨ad, e, fun j hj => ?_⟩; obtain ⟨ad', e', hx'⟩ := Kd.at_int h (j : Int) (by omega) (by omega); rw [e] at e'; injection e' with e'; subst e'; rw [Int.toNat_natCast] at hx'
    rw [hx', rd_nat]⟩
set_option maxRecDepth 100000 in
set_option maxHeartbeats 1000000 in
theorem grow_nil (n : Nat) (w : World) (hn : n ≤ 1000000) : Calls Try.prog 163 #[.slice none 0 0, .int .i64 (n : Int)] w fun e w' => ∃ v, e = .returned v ∧ w'.ownsRow w.heap.size 3 1 v 0 [] ∧ Below w.heap.size w w' := by
  have c1 : decide ((n : Int) < 0) = false := decide_eq_false (by omega)
  by_cases h0 : 0 < n
  · have c2 : decide ((n : Int) > 0) = true := decide_eq_true (by omega)
    go_enter Try.func163, Try.ntmps163
    go_wp2_with (at_builtin; refine Kd.R_append_zeros (Kd.int .i64) (w0 := w) w.heap.size rfl _ _ 23 3 3 (.int .i64 0) 8 rfl (by kernel_rfl) (k := .i64) (by kernel_rfl) (by kernel_rfl) rfl (by decide) (by decide) (.slice none 0 0) [] (0 : Int) (n : Int) (fun _ => True) rfl rfl (by rfl) (fun _ _ => trivial) (Kd.R_nil _ _ _ _ _) (by omega) (Below.refl _ _) (Nat.le_refl _) (by simp; omega) ?_; intro v1 w1 h1 hB1 hg hat; obtain ⟨gv, cap, rfl, HO⟩ := grow_form h0 h1; have HB := Aside0.mk hB1; clear h1 hB1 hg hat)
    go_ret
    exact ⟨_, rfl, HO.out, HB.out⟩
  · obtain rfl : n = 0 := by omega
    go_enter Try.func163, Try.ntmps163
    go_wp2
    go_ret
    exact ⟨_, rfl, World.ownsRow_nil _ _ _ _, Below.refl _ _⟩
def sizesOf (l : List (List Int)) : Nat := (l.map List.length).sum
theorem sizes_take (l : List (List Int)) (j : Nat) (h : j < l.length) : sizesOf (l.take (j + 1)) = sizesOf (l.take j) + l[j].length := by
  unfold sizesOf
  rw [List.take_succ_eq_append_getElem h, List.map_append, List.sum_append]; simp
theorem sizes_le (l : List (List Int)) (j : Nat) : sizesOf (l.take j) ≤ sizesOf l := by
  unfold sizesOf
  conv => rhs; rw [← List.take_append_drop j l, List.map_append, List.sum_append]
  omega
theorem flatten_take (l : List (List Int)) (j : Nat) (h : j < l.length) : (l.take (j + 1)).flatten = (l.take j).flatten ++ l[j] := by
  rw [List.take_succ_eq_append_getElem h, List.flatten_append]; simp
theorem flatten_size (l : List (List Int)) : l.flatten.length = sizesOf l := by
  rw [List.length_flatten]; rfl
set_option maxRecDepth 100000 in
set_option maxHeartbeats 4000000 in
theorem concat_c (A0 : Option Addr) (c0 : Nat) (l : List (List Int)) (w : World) (hr : Kd.C (Kd.slice 3 (Kd.int .i64)) w A0 l.length l) (hs : sizesOf l ≤ 1000000) :
    Calls Try.prog 85 #[.slice A0 l.length c0] w fun e w' => ∃ v, e = .returned v ∧ w'.ownsRow w.heap.size 3 1 v l.flatten.length (nums .i64 l.flatten) ∧ Below w.heap.size w w' := by
  have HR := Aside0.mk hr; have hlen : l.length ≤ 9223372036854775807 := hr.2.1; have HG := Aside0.mk (fun (W : World) => grow_nil (sizesOf l) W hs); have HS := Aside0.mk hs; clear hr hs
  go_enter Try.func85, Try.ntmps85
  go_wp2
  go_loopg [3, 11] l.length (fun gk v3 v11 w' => ∃ j : Nat, j ≤ l.length ∧ gk = l.length - j ∧ v11 = .int .i64 (j : Int) ∧ v3 = .int .i64 (sizesOf (l.take j) : Int) ∧ w = w')
  case atStart => exact ⟨0, Nat.zero_le _, rfl, rfl, rfl, rfl⟩
  case round =>
    obtain ⟨j, hj, rfl, rfl, rfl, hwe⟩ := hrel; subst hwe
    by_cases hlt : j < l.length
    · have d1 : decide ((j : Int) < (l.length : Int)) = true := decide_eq_true (by omega)
      have d2 : decide (j < l.length) = true := decide_eq_true hlt
      have d4 : (0 : Int) ≤ (j : Int) := by omega
      obtain ⟨ad, A1, c3, e, hx, hx2, hx3⟩ := at_L1 HR.out (j : Int) (by omega) (by omega); cases e; rw [Int.toNat_natCast, rd_L1_nat] at hx
      have e1 : l.getD j [] = l[j] := by rw [List.getD_eq_getElem?_getD, List.getElem?_eq_getElem hlt]; rfl
      rw [e1] at hx; have hst := sizes_take l j hlt; have hsl := sizes_le l (j + 1); have HST := Aside0.mk hst
      have hb : sizesOf (l.take j) + l[j].length ≤ 1000000 := by have := HS.out; omega
      generalize l[j].length = m at hx hst HST hb; generalize sizesOf (l.take j) = sj at hst HST hb ⊢; have d5 : decide (((sj : Int) + (m : Int)) < 0) = false := decide_eq_false (by omega); clear hx2 hx3 e1 hst hsl; go_wp2
      go_roundg (l.length - (j + 1))
      case measure => omega
      case rel => exact ⟨j + 1, by omega, rfl, by first | rfl | rw [wrap_succ (by omega)], by rw [HST.out]; rfl, rfl⟩
    · obtain rfl : j = l.length := by omega
      have d1 : decide ((l.length : Int) < (l.length : Int)) = false := decide_eq_false (by omega); rw [List.take_length]; go_wp2_with fail; refine (HG.out _).mono ?_; rintro e w1 ⟨v1, rfl, ho1, hb1⟩; obtain ⟨vA, vc, rfl⟩ := own_len ho1; have HO1 := Aside0.mk ho1; have HB1 := Aside0.mk hb1; clear ho1 hb1 HG; go_wp2
      go_loopg [6, 27] l.length (fun gk v6 v27 w' => ∃ j : Nat, j ≤ l.length ∧ gk = l.length - j ∧ v27 = .int .i64 (j : Int) ∧ Aside0 (w'.ownsRow w.heap.size 3 1 v6 (l.take j).flatten.length (nums .i64 (l.take j).flatten)) ∧ Aside0 (Below w.heap.size w w'))
      case atStart => exact ⟨0, Nat.zero_le _, rfl, rfl, HO1, HB1⟩
      case round =>
        obtain ⟨j, hj, rfl, rfl, HO, HB⟩ := hrel
        by_cases hlt : j < l.length
        · have d1 : decide ((j : Int) < (l.length : Int)) = true := decide_eq_true (by omega)
          have d2 : decide (j < l.length) = true := decide_eq_true hlt
          have d4 : (0 : Int) ≤ (j : Int) := by omega
          obtain ⟨ad, A1, c3, e, hx, hx2, hx3⟩ := at_L1 HR.out (j : Int) (by omega) (by omega); cases e; rw [Int.toNat_natCast, rd_L1_nat] at hx; rw [rd_L1_nat] at hx2 hx3
          have e1 : l.getD j [] = l[j] := by rw [List.getD_eq_getElem?_getD, List.getElem?_eq_getElem hlt]; rfl
          rw [e1] at hx hx2 hx3; replace hx := (HB.out.cell (World.block_lt_of_cell? w _ hx)).trans hx; have HX3 := Aside0.mk (Kd.C_below hx3 HB.out); have hft := flatten_take l j hlt; have HFT := Aside0.mk hft
          have hsz : ((l.take j).flatten.length + l[j].length) * 8 ≤ 140737488355328 := by
            have h1 := flatten_size (l.take (j + 1)); rw [hft, List.length_append] at h1; have := sizes_le l (j + 1); have := HS.out; omega
          have HSZ := Aside0.mk hsz; generalize l[j] = y at hx hx2 HX3 HFT HSZ; clear hx3 e1 hft hsz; obtain ⟨vA, vc, rfl⟩ := own_len HO.out; go_wp2_with (at_builtin; refine print_append_row (w0 := w) w.heap.size rfl _ _ 23 3 .i64 8 rfl (by kernel_rfl) (by kernel_rfl) (by decide) _ (l.take j).flatten y A1 y.length c3 rfl rfl HO.out (ReadsInt_of_C HX3.out) HB.out HB.out.size HSZ.out ?_; intro v1 w2 h1 hB1 hg hat; have HO2 := Aside0.mk h1; have HB2 := Aside0.mk hB1; clear h1 hB1 hg hat)
          go_roundg (l.length - (j + 1))
          case measure => omega
          case rel => exact ⟨j + 1, by omega, rfl, by first | rfl | rw [wrap_succ (by omega)], ⟨by rw [HFT.out]; exact HO2.out⟩, HB2⟩
        · obtain rfl : j = l.length := by omega
          have d1 : decide ((l.length : Int) < (l.length : Int)) = false := decide_eq_false (by omega); have ho := HO.out; rw [List.take_length] at ho; have HO2 := Aside0.mk ho; clear ho; go_wp2
          go_ret
          exact ⟨_, rfl, HO2.out, HB.out⟩
def slices_Concat_int_int.f (l0 : List (List Int)) : Option (List Int) := if sizesOf l0 ≤ 1000000 then some l0.flatten else none
theorem slices_Concat_int_int.calls (A0 : Option Addr) (c0 : Nat) (l0 : List (List Int)) (r : List Int) (w : World) (hr0 : Kd.C (Kd.slice 3 (Kd.int .i64)) w A0 l0.length l0) (hc0 : l0.length ≤ c0) (h : slices_Concat_int_int.f l0 = some r) :
    Calls Try.prog 85 #[.slice A0 l0.length c0] w fun e w' => ∃ v0_ : Value, e = .returned v0_ ∧ Kd.R (Kd.int .i64) 3 w' w.heap.size (fun _ => True) v0_ r ∧ Below w.heap.size w w' := by
  unfold slices_Concat_int_int.f at h
  split at h
  · cases h
    refine (concat_c A0 c0 l0 w hr0 (by assumption)).mono ?_; rintro e w' ⟨v, he, ho, hb⟩; exact ⟨v, he, R_of_owns ho (fun _ _ => trivial), hb⟩
  · cases h
end Go.Proofs.Ytdbamhckgaoibaa.P
