/- A part of the proof of DealingSpec: slices.Collect over an iterator that yields known slices.; dealing.sum, dealing.times.; dealing.rows: the rows of shares, in turn.; dealing.Recover.; What is dealt, and the group's elements, in plain words.; The reference's group, in plain words.; dealing.check, right, Public and Fits in plain words. -/
import Derived.Test.YtdbamhckgaoibaaZDSP6
namespace Go.Proofs.Ytdbamhckgaoibaa.P
open Go.RowKit Go.Proofs.YtdbamhckgaoibaaW.PrintWords Go.Proofs.YtdbamhckgaoibaaW.PrintLast Go.Proofs.YtdbamhckgaoibaaW.PrintMore
attribute [local go_sem] Oper.semAt_some
set_option linter.unusedVariables false
set_option linter.unusedSimpArgs false
def IterC (g : Nat) (lb : Array Value) (w : World) (yv : List Value) : Prop :=
  ∀ (l : Nat) (W1 : World) (J : Nat → World → Prop), (∀ k W, J k W → Below w.heap.size w W) → (∀ k W W', J k W → Below W.heap.size W W' → J k W') →
    (∀ k W v, yv[k]? = some v → J k W → YieldAt Fence.wide 7 Try.prog l #[v] W fun e W' => e = .returned (.bool true) ∧ J (k + 1) W') → J 0 W1 →
    CallsIn Fence.wide 8 Try.prog g (#[.func (.yield l) #[] #[]] ++ lb) W1 fun e W' => (∃ v, e = .returned v) ∧ J yv.length W'
def AI (w : World) (Bq : Nat) (yv : List Value) (k : Nat) (W : World) : Prop :=
  ∃ v, Bx W Bq v ∧ W.ownsRow (Bq + 1) 23 1 v k (yv.take k) ∧ Below Bq w W
theorem AI.own (w : World) (Bq : Nat) (yv : List Value) {B : Nat} (hB : Bq ≤ B) (hw : Bq ≤ w.heap.size) : OwnFrom B (AI w Bq yv) := by
  rintro k W W' row ⟨v, h1, h2, h3⟩ hg hr; exact ⟨v, h1.kept hg (fun r e => (hr r e).2), own_nocell h2 hg (fun r e => (hr r e).2), h3.grown hg (Nat.le_trans hw h3.size) (fun k e => Nat.le_trans hB (hr k e).1)⟩
theorem keeps_own {W W' : World} {base n size : Nat} {e : TypeId} {v : Value} {xs : List Value} (hO : W.ownsRow base e size v n xs) (hg : W.grownBy W' v.ownBlock) : KeepsOthers W W' :=
  ⟨hg.size, fun k o hk hf => (hg.block k (Array.getElem?_eq_some_iff.1 hk).1 (fun e1 => by
    obtain ⟨cells, hcl⟩ := own_typed hO k e1.symm; rw [hcl] at hk; cases hk
    simp [Obj.isCells] at hf)).trans hk⟩
theorem AI.below {w : World} {Bq : Nat} {yv : List Value} {k : Nat} {W W' : World} (h : AI w Bq yv k W) (hb : Below W.heap.size W W') (hw : Bq ≤ w.heap.size) : AI w Bq yv k W' := by
  obtain ⟨v, h1, h2, h3⟩ := h; exact ⟨v, h1.below hb, own_below h2 hb, h3.trans (hb.mono (Nat.le_trans hw h3.size))⟩
set_option maxRecDepth 100000 in
set_option maxHeartbeats 4000000 in
theorem appendSeq_c {g : Nat} {lb : Array Value} {w : World} {yv : List Value} (eg : ∀ args w, (callFunc g args).run Try.prog w = .ok (.enter g args) w) (hit : IterC g lb w yv) (h1 : ∀ v ∈ yv, ∃ A n c, v = Value.slice A n c) (hl : yv.length ≤ 1000000) :
    Calls Try.prog 170 #[.slice none 0 0, .func (.func g) #[] lb] w fun e w' => ∃ v, e = .returned v ∧ w'.ownsRow (w.heap.size + 1) 23 1 v yv.length yv ∧ Below w.heap.size w w' := by
  have HIT := Aside0.mk hit; have H1 := Aside0.mk h1; clear hit h1; refine (callsIn_wide (n := 9)).1 ?_; refine callsIn_of_wp_marks Try.func170 rfl trivial ?_ rfl; simp only [Try.ntmps170, List.size_toArray, List.length_cons, List.length_nil, Nat.reduceAdd, Nat.reduceSub, Array.replicate_succ, Array.replicate_zero, List.push_toArray, List.append_toArray, List.nil_append, List.cons_append]
  gi_wp2
  obtain ⟨W0, hW0⟩ : ∃ W0, w.alloc (.cells #[.slice none 0 0] 22) = W0 := ⟨_, rfl⟩
  rw [hW0]
  have hb0 : Below w.heap.size w W0 := by rw [← hW0]; exact (Below.refl _ _).alloc (Nat.le_refl _) _
  have hx0 : Bx W0 w.heap.size (.slice none 0 0) := by rw [← hW0]; exact Bx.new _ _ _
  have hz0 : W0.heap.size = w.heap.size + 1 := by rw [← hW0]; simp
  have HB0 := Aside0.mk hb0; have HZ0 := Aside0.mk hz0
  have h0 : AI w w.heap.size yv 0 W0 := ⟨_, hx0, World.ownsRow_nil _ _ _ _, hb0⟩
  have H0 := Aside0.mk h0; clear hW0 hb0 hx0 hz0 h0; refine range_all (by omega) rfl eg (AI w w.heap.size yv) 0 (fun k => k = yv.length) (fun k vs k' => k < yv.length ∧ vs = #[yv.getD k undef] ∧ k' = k + 1) ?_ H0.out ?_ ?_ ?_ ?_
  · exact AI.own _ _ _ (by rw [HZ0.out]; omega) (Nat.le_refl _)
  · rintro k vs k' ⟨_, rfl, _⟩; rfl
  · intro l W1 J hs hJI hJ hY hj0
    refine (HIT.out l W1 J (fun k W h => (hJI k W h).choose_spec.2.2) (fun k W W' h hb => hJ k k W W' h ((keeps_below hb).from _) ((hJI k W h).below hb (Nat.le_refl _))) (fun k W v hv h => ?_) hj0).mono (fun e W' h => ⟨h.1, yv.length, rfl, h.2⟩); have hlt := (List.getElem?_eq_some_iff.1 hv).1
    have hv' : v = yv.getD k undef := by rw [List.getD_eq_getElem?_getD, hv]; rfl
    rw [hv']; exact hY k _ _ W ⟨hlt, rfl, rfl⟩ h
  · rintro l k vs k' W ⟨hk, rfl, rfl⟩ hI
    have HI := Aside0.mk hI; clear hI
    obtain ⟨y, hy⟩ : ∃ y, y = yv.getD k undef := ⟨_, rfl⟩
    rw [← hy]; obtain ⟨yA, yn, yc, hy1⟩ := H1.out y (by rw [hy, List.getD_eq_getElem?_getD, List.getElem?_eq_getElem hk]; exact List.getElem_mem hk)
    have hyt : yv.take (k + 1) = yv.take k ++ [y] := by rw [List.take_succ_eq_append_getElem hk, hy, List.getD_eq_getElem?_getD, List.getElem?_eq_getElem hk]; rfl
    have HYT := Aside0.mk hyt; subst hy1; clear hy hyt
    gi_wp2
    refine ⟨KeepsFrom.refl _ _, HI.out, ?_⟩; clear HI; rintro W2 ⟨v, hx, ho, hb⟩; have e2 := hx.1; have f2 := hx.2; have hlt := hx.lt; have HX := Aside0.mk hx; have HB := Aside0.mk hb; have HOA := Aside0.mk (own_below ho ((Below.refl _ W2).alloc (Nat.le_refl _) (.cells #[.slice yA yn yc] 23))); have HO := Aside0.mk ho; obtain ⟨i0, hi0, hz0, hz1, hz2⟩ := info_parts (P := Try.prog) (e := 23) (z := .slice none 0 0) (size := 1) (bytes := 24) (by kernel_rfl); obtain ⟨vA, vc, rfl⟩ := own_len ho; clear hx hb ho
    gi_wp2_with (gi_at_builtin; refine wpListIn_append_own _ rfl _ _ 22 rfl (w.heap.size + 1) 23 i0 (.slice none 0 0) 1 24 (by kernel_rfl) hi0 hz0 hz1 hz2 rfl (by decide) _ _ _ rfl HOA.out ⟨W2.heap.size, 0, none⟩ 1 1 [.slice yA yn yc] rfl ?qc1 ?qc2 ?qc3 ?qc4 ?qc5 ?qc6 ?_)
    case qc1 => rfl
    case qc2 =>
      intro j u hj; have hj1 := (List.getElem?_eq_some_iff.1 hj).1
      obtain rfl : j = 0 := by simpa using hj1
      simp only [List.getElem?_cons_zero, Option.some.injEq] at hj; subst hj; exact (Bx.new W2 (.slice yA yn yc) 23).1
    case qc3 => intro u hu; simp only [List.mem_singleton] at hu; subst hu; rfl
    case qc4 => unfold maxLen; omega
    case qc5 => omega
    case qc6 => simp; omega
    intro v' w9 hown hgrow hnil; clear hnil; obtain ⟨vA', vc', rfl⟩ := own_len hown; have hch : Chg (fun b => (Value.slice vA k vc).ownBlock = some b) (W2.alloc (.cells #[.slice yA yn yc] 23)) w9 := (Chg.refl _ _).then_grown hgrow (fun b e => .inl e); have hx9 := (HX.out.alloc (.cells #[.slice yA yn yc] 23)).chg hch (fun e => by have := own_base HO.out _ e; omega); have e9 := hx9.1; have f9 := hx9.2; have HX9 := Aside0.mk hx9; have HW9 := Aside0.mk hown; have hk9 : KeepsOthers W2 w9 := (keeps_below ((Below.refl _ W2).alloc (Nat.le_refl _) (.cells #[.slice yA yn yc] 23))).trans (keeps_own HOA.out hgrow)
    have hb9 : Below w.heap.size w w9 := by
      refine (HB.out.alloc HB.out.size (.cells #[.slice yA yn yc] 23)).grown hgrow (by simp; omega) (fun b e => by have := own_base HO.out _ e; omega)
    have HK9 := Aside0.mk hk9; have HB9 := Aside0.mk hb9; clear hown hgrow e2 f2 hi0 hz0 hz1 hz2 i0 hch hx9 hk9 hb9
    gi_wp2
    refine ⟨(HK9.out.trans (KeepsOthers.setCell _ _ _)).from _, _, HX9.out.set _, ?_, HB9.out.setCell (Nat.le_refl _) _⟩; rw [HYT.out]; exact own_far HW9.out (Nat.lt_succ_self _) _
  · rintro D k W hD rfl ⟨v, hx, ho, hb⟩ hK
    have e2 := hx.1; have HO := Aside0.mk ho; have HB := Aside0.mk hb
    have hDw : w.heap.size ≤ D := by have := HZ0.out; omega
    clear hx ho hb
    gi_wp2
    refine ⟨by simp, .inl ⟨_, _, rfl, run_takeDeferred hK, ?_⟩⟩; refine ⟨v, by simp [results, Try.results170, go_sem], v, rfl, ?_, HB.out.grown (grownBy_putObj' W D (.deferred none)) HB.out.size (fun b e => by cases e; exact hDw)⟩; have := own_nocell HO.out (grownBy_putObj' W D (.deferred none)) (fun r e => by cases e; exact ⟨_, hK, rfl⟩); rw [List.take_length] at this; exact this
theorem collect_c {g : Nat} {lb : Array Value} {w : World} {yv : List Value} (eg : ∀ args w, (callFunc g args).run Try.prog w = .ok (.enter g args) w) (hit : IterC g lb w yv) (h1 : ∀ v ∈ yv, ∃ A n c, v = Value.slice A n c) (hl : yv.length ≤ 1000000) :
    Calls Try.prog 93 #[.func (.func g) #[] lb] w fun e w' => ∃ v, e = .returned v ∧ w'.ownsRow (w.heap.size + 1) 23 1 v yv.length yv ∧ Below w.heap.size w w' := by
  have HC := Aside0.mk (appendSeq_c eg hit h1 hl); clear eg hit h1
  go_enter Try.func93, Try.ntmps93
  go_wp2_with (go_at_call 170; refine HC.out.mono ?_; rintro e w' ⟨v, rfl, h1, h2⟩; have H1 := Aside0.mk h1; have H2 := Aside0.mk h2; clear h1 h2)
  go_ret
  exact ⟨_, rfl, H1.out, H2.out⟩
theorem C_of_own {W : World} {base : Nat} {v : Value} {yv : List Value} {rows : List (List Int)} (ho : W.ownsRow base 23 1 v yv.length yv) (hl : yv.length = rows.length) (hb : rows.length ≤ 1000000) (hr : ∀ i, i < rows.length → ∃ A c, yv[i]? = some (.slice A (rows.getD i []).length c) ∧ (rows.getD i []).length ≤ c ∧ Kd.C (Kd.int .i64) W A (rows.getD i []).length (rows.getD i [])) :
    ∃ A c, v = .slice A rows.length c ∧ rows.length ≤ c ∧ Kd.C (Kd.slice 3 (Kd.int .i64)) W A rows.length rows := by
  rcases ho.2 with ⟨rfl, h0⟩ | ⟨g, cap, cur, rfl, hg, hh, hc1, hc2, hc3, hc4⟩
  · exact ⟨none, 0, by rw [← hl, h0], by omega, rfl, by omega, fun h => by omega⟩
  · rw [hl] at hc1
    refine ⟨some ⟨g, 0, none⟩, cap, by rw [hl], hc1, rfl, by omega, fun h => ⟨⟨g, 0, none⟩, rfl, fun j p hj => ?_⟩⟩; have hjl := (List.getElem?_eq_some_iff.1 hj).1; obtain ⟨A, c, h1, h2, h3⟩ := hr j hjl
    have hp : rows.getD j [] = p := by rw [List.getD_eq_getElem?_getD, hj]; rfl
    rw [hp] at h1 h2 h3; refine ⟨[.slice A p.length c], rfl, ⟨A, c, rfl, h2, h3⟩, fun i u hu => ?_⟩; have hi1 := (List.getElem?_eq_some_iff.1 hu).1
    obtain rfl : i = 0 := by simpa using hi1
    simp only [List.getElem?_cons_zero, Option.some.injEq] at hu; subst hu; have := ho.cells (g := g) rfl j _ h1
    show W.cell? (Addr.add ⟨g, 0, none⟩ (j * 1 + 0)) = _
    rw [Nat.mul_one, Nat.add_zero]; exact this
end Go.Proofs.Ytdbamhckgaoibaa.P
namespace Go.Proofs.Ytdbamhckgaoibaa.P
open Go.RowKit Go.Proofs.YtdbamhckgaoibaaW.PrintWords Go.Proofs.YtdbamhckgaoibaaW.PrintLast Go.Proofs.YtdbamhckgaoibaaW.PrintMore
set_option linter.unusedVariables false
set_option linter.unusedSimpArgs false
def sumQ (f : Nat → Int) : Nat → Int
  | 0 => 0
  | k + 1 => (sumQ f k + f k) % 1073741789
theorem wrap_next {j : Nat} (h : j < 9223372036854775807) : wrap64 ((j : Int) + 1) = ((j + 1 : Nat) : Int) := by unfold wrap64; omega
set_option maxHeartbeats 1000000 in
theorem sumInt_c {g : Nat} (eg : ∀ args w, (callFunc g args).run Try.prog w = .ok (.enter g args) w) (p : Addr) (f : Nat → Int) (A0 : Option Addr) (c0 : Nat) (l : List Int) (w : World) (hr : Kd.C (Kd.int .i64) w A0 l.length l)
    (hg : ∀ (i : Nat) (W : World), i < l.length → Below w.heap.size w W → Calls Try.prog g #[.int .i64 (i : Int), .int .i64 (rd l (i : Int)), .pointer (some p)] W fun e w' => e = .returned (.int .i64 (f i)) ∧ Drawn0 W w') :
    Calls Try.prog 164 #[.slice A0 l.length c0, .func (.func g) #[] #[.pointer (some p)]] w fun e w' => e = .returned (.int .i64 (sumQ f l.length)) ∧ Below w.heap.size w w' := by
  have HG := Aside0.mk hg; have HR := Aside0.mk hr; have hlen : l.length ≤ 9223372036854775807 := hr.2.1; clear hr hg
  go_enter Try.func164, Try.ntmps164
  go_wp2
  go_loopg [4, 9] l.length (fun gk v4 v9 w' => ∃ j : Nat, j ≤ l.length ∧ gk = l.length - j ∧ v9 = .int .i64 (j : Int) ∧ v4 = .int .i64 (sumQ f j) ∧ Aside0 (Below w.heap.size w w'))
  case atStart => exact ⟨0, Nat.zero_le _, rfl, rfl, rfl, ⟨by first | exact Below.refl _ _ | exact pw_below_drewN (Below.refl _ _) _⟩⟩
  case round =>
    obtain ⟨j, hj, rfl, rfl, rfl, HB⟩ := hrel
    by_cases hlt : j < l.length
    · have c1 : decide ((j : Int) < (l.length : Int)) = true := decide_eq_true (by omega)
      have c2 : decide (j < l.length) = true := decide_eq_true hlt
      have c4 : (0 : Int) ≤ (j : Int) := by omega
      obtain ⟨ad, e, hx⟩ := Kd.at_int HR.out (j : Int) (by omega) (by omega); cases e; rw [Int.toNat_natCast] at hx; have hcall := HG.out j wr hlt HB.out; replace hx := (HB.out.cell (World.block_lt_of_cell? w _ hx)).trans hx; generalize rd l (j : Int) = x at hx hcall; have hS : sumQ f (j + 1) = (sumQ f j + f j) % 1073741789 := rfl; generalize f j = fj at hcall hS; have HS := Aside0.mk hS; have HC := Aside0.mk hcall; have HL := Aside0.mk hlen; clear hS hcall HG hlen; go_wp2_with (go_at_call 36; refine (field_Add_m.calls _ _ _ _ rfl).mono ?_; rintro e w2 ⟨rfl, hb2⟩; have HB2 := Aside0.mk hb2; clear hb2); refine HC.out.mono ?_; rintro e w1 ⟨rfl, ⟨nd, rfl⟩⟩; go_wp2_with (go_at_call 36; refine (field_Add_m.calls _ _ _ _ rfl).mono ?_; rintro e w2 ⟨rfl, hb2⟩; have HB2 := Aside0.mk (below_then (pw_below_drewN HB.out nd) (by exact HB.out.size) hb2); clear hb2)
      go_roundg (l.length - (j + 1))
      case measure => omega
      case rel =>
        have := HL.out; exact ⟨j + 1, by omega, rfl, by rw [wrap_next (by omega)], by rw [HS.out], HB2⟩
    · obtain rfl : j = l.length := by omega
      have c1 : decide ((l.length : Int) < (l.length : Int)) = false := decide_eq_false (by omega); go_wp2
      go_ret
      exact ⟨rfl, HB.out⟩
set_option maxHeartbeats 1000000 in
theorem times1_c (B : Nat) (A1 : Option Addr) (c1 : Nat) (b : List Int) (i : Nat) (x : Int) (W : World) (hB : W.cell? ⟨B, 0, none⟩ = some (.slice A1 b.length c1)) (hr : Kd.C (Kd.int .i64) W A1 b.length b) (hi : i < b.length) :
    Calls Try.prog 165 #[.int .i64 (i : Int), .int .i64 x, .pointer (some ⟨B, 0, none⟩)] W fun e w' => e = .returned (.int .i64 (x * b.getD i 0 % 1073741789)) ∧ Drawn0 W w' := by
  obtain ⟨ad, e, hx⟩ := Kd.at_int hr (i : Int) (by omega) (by omega); cases e; rw [Int.toNat_natCast] at hx
  have e : rd b (i : Int) = b.getD i 0 := by unfold rd; rw [Int.toNat_natCast]
  rw [e] at hx; generalize b.getD i 0 = y at hx; have c2 : decide (i < b.length) = true := decide_eq_true hi
  have c3 : (i : Int) < (b.length : Int) := by omega
  have c4 : (0 : Int) ≤ (i : Int) := by omega
  clear e hr
  go_enter Try.func165, Try.ntmps165
  go_wp2_with (go_at_call 65; refine (mul_c _ _ _).mono ?_; rintro e w' ⟨rfl, ⟨nd, rfl⟩⟩)
  go_ret
  exact ⟨rfl, dr_⟩
theorem sumQ_congr {f g : Nat → Int} : ∀ {k : Nat}, (∀ i, i < k → f i = g i) → sumQ f k = sumQ g k
  | 0, _ => rfl
  | k + 1, h => by unfold sumQ; rw [sumQ_congr (fun i hi => h i (by omega)), h k (by omega)]
theorem dot_take : ∀ (a b : List Int) (k : Nat), k < a.length → k < b.length → Sig.dot (a.take (k + 1)) b = Sig.dot (a.take k) b + a.getD k 0 * b.getD k 0
  | [], _, _, h, _ => by simp at h
  | _ :: _, [], _, _, h => by simp at h
  | x :: a, y :: b, 0, _, _ => by simp [Sig.dot]
  | x :: a, y :: b, k + 1, h1, h2 => by
    have := dot_take a b k (by simpa using h1) (by simpa using h2); rw [List.take_succ_cons, List.take_succ_cons, Sig.dot, Sig.dot, this]
    simp
    omega
theorem sumQ_dot (a b : List Int) (h : a.length ≤ b.length) : ∀ k, k ≤ a.length → sumQ (fun i => a.getD i 0 * b.getD i 0 % 1073741789) k = Sig.dot (a.take k) b % 1073741789
  | 0, _ => by rw [List.take_zero]; rfl
  | k + 1, hk => by
    unfold sumQ; rw [sumQ_dot a b h k (by omega), dot_take a b k (by omega) (by omega)]; omega
theorem times_c (A0 : Option Addr) (c0 : Nat) (a : List Int) (A1 : Option Addr) (c1 : Nat) (b : List Int) (w : World) (hr0 : Kd.C (Kd.int .i64) w A0 a.length a) (hr1 : Kd.C (Kd.int .i64) w A1 b.length b) (hl : a.length ≤ b.length) :
    Calls Try.prog 86 #[.slice A0 a.length c0, .slice A1 b.length c1] w fun e w' => e = .returned (.int .i64 (Sig.dot a b % 1073741789)) ∧ Below w.heap.size w w' := by
  have hs := sumQ_dot a b hl a.length (Nat.le_refl _); rw [List.take_length] at hs; rw [← hs]; have hb : Below w.heap.size w (w.alloc (.cells #[.slice A1 b.length c1] 23)) := (Below.refl _ _).alloc (Nat.le_refl _) _; have hbx := Bx.new w (.slice A1 b.length c1) 23
  have HC := Aside0.mk (sumInt_c (g := 165) (fun args w => enters_ Try.func165 (by kernel_rfl) rfl args w) ⟨w.heap.size, 0, none⟩ (fun i => a.getD i 0 * b.getD i 0 % 1073741789) A0 c0 a (w.alloc (.cells #[.slice A1 b.length c1] 23)) (Kd.C_below hr0 hb) (fun i W hi hW => by
    have hrd : rd a (i : Int) = a.getD i 0 := by unfold rd; rw [Int.toNat_natCast]
    rw [hrd]
    exact times1_c w.heap.size A1 c1 b i (a.getD i 0) W (hbx.below hW).1 (Kd.C_below (Kd.C_below hr1 hb) hW) (by omega)))
  have HB := Aside0.mk hb; clear hr0 hr1 hs hbx hb; generalize sumQ (fun i => a.getD i 0 * b.getD i 0 % 1073741789) a.length = s at HC ⊢
  have hmf : ∀ (fn : Fn) (first cap : Array Value) (w : World), (Instr.makeFunc fn first cap).run Try.prog w = .ok (.func fn first cap) w := fun _ _ _ _ => rfl
  go_enter Try.func86, Try.ntmps86
  go_wp2_with (go_at_call 164; refine HC.out.mono ?_; rintro e w' ⟨rfl, hb2⟩; have HB2 := Aside0.mk (below_then HB.out (by simp) hb2); clear hb2)
  go_ret
  exact ⟨rfl, HB2.out⟩
def dealing_times.f (l0 l1 : List Int) : Option Int := if l0.length ≤ l1.length then some (Sig.dot l0 l1 % 1073741789) else none
theorem dealing_times.calls (A0 : Option Addr) (c0 : Nat) (l0 : List Int) (A1 : Option Addr) (c1 : Nat) (l1 : List Int) (r : Int) (w : World) (hr0 : Kd.C (Kd.int .i64) w A0 l0.length l0) (hc0 : l0.length ≤ c0) (hr1 : Kd.C (Kd.int .i64) w A1 l1.length l1) (hc1 : l1.length ≤ c1) (h : dealing_times.f l0 l1 = some r) :
    Calls Try.prog 86 #[.slice A0 l0.length c0, .slice A1 l1.length c1] w fun e w' => e = .returned (.int .i64 r) ∧ Below w.heap.size w w' := by
  unfold dealing_times.f at h
  split at h
  · cases h; exact times_c A0 c0 l0 A1 c1 l1 w hr0 hr1 (by assumption)
  · cases h
end Go.Proofs.Ytdbamhckgaoibaa.P
namespace Go.Proofs.Ytdbamhckgaoibaa.P
open Go.RowKit Go.Proofs.YtdbamhckgaoibaaW.PrintWords Go.Proofs.YtdbamhckgaoibaaW.PrintLast Go.Proofs.YtdbamhckgaoibaaW.PrintMore
attribute [local go_sem] Oper.semAt_some
set_option linter.unusedVariables false
set_option linter.unusedSimpArgs false
theorem wrap_nextB {j : Nat} (h : j < 9223372036854775807) : wrap64 ((j : Int) + 1) = ((j + 1 : Nat) : Int) := by unfold wrap64; omega
set_option maxRecDepth 100000 in
set_option maxHeartbeats 4000000 in
theorem rows1_it (w : World) (bs bp : Nat) (As : Option Addr) (cs : Nat) (ls : List S38) (Ap : Option Addr) (adr : Addr) (cp : Nat) (rows : List (List Int))
    (h1 : w.cell? ⟨bs, 0, none⟩ = some (.slice As ls.length cs)) (h2 : w.cell? ⟨bp, 0, none⟩ = some (.slice Ap rows.length cp)) (hadr : 0 < ls.length → Ap = some adr)
    (hs : Kd.C k38 w As ls.length ls) (hr : Kd.C (Kd.slice 3 (Kd.int .i64)) w Ap rows.length rows) (hin : ∀ s ∈ ls, 0 ≤ s.f0 ∧ s.f0 < rows.length) :
    IterC 171 #[.pointer (some ⟨bs, 0, none⟩), .pointer (some ⟨bp, 0, none⟩)] w (ls.map fun s => (w.cell? (adr.add s.f0.toNat)).getD undef) := by
  intro l W1 J hJB hJS hY hj0; have hlen : ls.length ≤ 9223372036854775807 := hs.2.1; have hb1 := World.block_lt_of_cell? w _ h1; have hb2 := World.block_lt_of_cell? w _ h2; have HS := Aside0.mk hs; have HR := Aside0.mk hr; have HIN := Aside0.mk hin; have HJS := Aside0.mk hJS; have HJB := Aside0.mk hJB; have HH1 := Aside0.mk h1; have HH2 := Aside0.mk h2; have e1 := ((hJB 0 W1 hj0).cell (p := ⟨bs, 0, none⟩) hb1).trans h1; rw [show (ls.map fun s => (w.cell? (adr.add s.f0.toNat)).getD undef).length = ls.length from List.length_map _]; clear hs hr hin hJS h1 h2 hJB; refine callsIn_of_wp Try.func171 rfl trivial ?_ rfl; simp only [Try.ntmps171, List.size_toArray, List.length_cons, List.length_nil, Nat.reduceAdd, Nat.reduceSub, Array.replicate_succ, Array.replicate_zero, List.push_toArray, List.append_toArray, List.nil_append, List.cons_append]
  gi_wp2
  clear e1
  gi_loopg [8] ls.length (fun gk v8 wr => ∃ k : Nat, k ≤ ls.length ∧ gk = ls.length - k ∧ v8 = .int .i64 (k : Int) ∧ J k wr)
  case atStart => exact ⟨0, Nat.zero_le _, rfl, rfl, hj0⟩
  case round =>
    clear hj0; obtain ⟨k, hk, rfl, rfl, hj⟩ := hrel; have hB := HJB.out k wr hj
    by_cases hlt : k < ls.length
    · have c1 : decide ((k : Int) < (ls.length : Int)) = true := decide_eq_true (by omega)
      have c2 : decide (k < ls.length) = true := decide_eq_true hlt
      have c3 : (0 : Int) ≤ (k : Int) := by omega
      obtain ⟨ads, ea, x1, x2⟩ := at_T38 HS.out (k : Int) (by omega) (by omega); cases ea; rw [Int.toNat_natCast] at x1 x2
      have hrd : rd_T38 ls (k : Int) = ls[k] := by unfold rd_T38; rw [Int.toNat_natCast, List.getD_eq_getElem?_getD, List.getElem?_eq_getElem hlt]; rfl
      rw [hrd] at x1 x2; have hAp := hadr (by omega); subst hAp; obtain ⟨g1, g2⟩ := HIN.out _ (List.getElem_mem hlt); obtain ⟨adr', Ar, cr, er, y1, y2, y3⟩ := at_L1 HR.out ls[k].f0 g1 g2
      obtain rfl : adr = adr' := by injection er
      have hv : (ls.map fun s => (w.cell? (adr.add s.f0.toNat)).getD undef)[k]? = some (.slice Ar (rd_L1 rows ls[k].f0).length cr) := by
        rw [List.getElem?_map, List.getElem?_eq_getElem hlt]; simp [y1]
      have hyk := hY k; generalize (ls.map fun s => (w.cell? (adr.add s.f0.toNat)).getD undef)[k]? = ov at hv hyk; have HYK := Aside0.mk (fun W h => hyk W _ hv h); generalize (rd_L1 rows ls[k].f0).length = rn at y1 HYK; have z1 := (hB.cell (World.block_lt_of_cell? w _ x1)).trans x1; have z2 := (hB.cell (World.block_lt_of_cell? w _ x2)).trans x2; have z3 := (hB.cell (World.block_lt_of_cell? w _ y1)).trans y1; have z4 := (hB.cell (World.block_lt_of_cell? w _ HH2.out)).trans HH2.out; have w1 := Nat.lt_of_lt_of_le (World.block_lt_of_cell? w _ y1) hB.size; have w2 := Nat.lt_of_lt_of_le hb2 hB.size
      obtain ⟨f0, hf0⟩ : ∃ f0, f0 = ls[k].f0.toNat := ⟨_, rfl⟩
      have hf1 : ls[k].f0 = (f0 : Int) := by omega
      rw [← hf0] at z3 w1; rw [hf1] at z1
      have g3 : (f0 : Int) < (rows.length : Int) := by omega
      have g4 : (0 : Int) ≤ (f0 : Int) := by omega
      have g5 : decide (f0 < rows.length) = true := decide_eq_true (by omega); have HJ := Aside0.mk hj; have HB := Aside0.mk hB; clear hv hyk y1 y2 y3 x1 x2 hj hB hY hf0 hf1 g1 g2 hrd; generalize ls[k].f1 = f1 at z2; obtain ⟨fn, tmps, assign, body, hy, hR⟩ := HYK.out _ (HJS.out k wr (wr.alloc (.cells #[.int .i64 (f0 : Int), .int .i64 f1] 38)) HJ.out ((Below.refl _ wr).alloc (Nat.le_refl _) _))
      gi_wp2
      refine hR.mono ?_; rintro e W' ⟨rfl, hj2⟩; have HJ2 := Aside0.mk hj2; clear hj2 z1 z2 z3 z4 w1 w2
      gi_wp2
      gi_roundg (ls.length - (k + 1))
      case measure => omega
      case rel => exact ⟨k + 1, by omega, rfl, by first | rfl | rw [wrap_nextB (by omega)], HJ2.out⟩
    · obtain rfl : k = ls.length := by omega
      have c1 : decide ((ls.length : Int) < (ls.length : Int)) = false := decide_eq_false (by omega); have HJ := Aside0.mk hj; clear hj hY hB
      gi_wp2
      go_end0
      exact ⟨⟨_, rfl⟩, HJ.out⟩
set_option maxHeartbeats 1000000 in
theorem sumShare_c {g : Nat} (eg : ∀ args w, (callFunc g args).run Try.prog w = .ok (.enter g args) w) (p : Addr) (f : Nat → Int) (A0 : Option Addr) (c0 : Nat) (l : List S38) (w : World) (hr : Kd.C k38 w A0 l.length l)
    (hg : ∀ (i : Nat) (W : World), i < l.length → Below w.heap.size w W → Calls Try.prog g #[.int .i64 (i : Int), .agg #[.int .i64 (rd_T38 l (i : Int)).f0, .int .i64 (rd_T38 l (i : Int)).f1], .pointer (some p)] W fun e w' => e = .returned (.int .i64 (f i)) ∧ Below W.heap.size W w') :
    Calls Try.prog 95 #[.slice A0 l.length c0, .func (.func g) #[] #[.pointer (some p)]] w fun e w' => e = .returned (.int .i64 (sumQ f l.length)) ∧ Below w.heap.size w w' := by
  have HG := Aside0.mk hg; have HR := Aside0.mk hr; have hlen : l.length ≤ 9223372036854775807 := hr.2.1; clear hr hg
  go_enter Try.func95, Try.ntmps95
  go_wp2
  go_loopg [4, 9] l.length (fun gk v4 v9 w' => ∃ j : Nat, j ≤ l.length ∧ gk = l.length - j ∧ v9 = .int .i64 (j : Int) ∧ v4 = .int .i64 (sumQ f j) ∧ Aside0 (Below w.heap.size w w'))
  case atStart => exact ⟨0, Nat.zero_le _, rfl, rfl, rfl, ⟨by first | exact Below.refl _ _ | exact pw_below_drewN (Below.refl _ _) _⟩⟩
  case round =>
    obtain ⟨j, hj, rfl, rfl, rfl, HB⟩ := hrel
    by_cases hlt : j < l.length
    · have c1 : decide ((j : Int) < (l.length : Int)) = true := decide_eq_true (by omega)
      have c2 : decide (j < l.length) = true := decide_eq_true hlt
      have c4 : (0 : Int) ≤ (j : Int) := by omega
      obtain ⟨ad, e, x1, x2⟩ := at_T38 HR.out (j : Int) (by omega) (by omega); cases e; rw [Int.toNat_natCast] at x1 x2; replace x1 := (HB.out.cell (World.block_lt_of_cell? w _ x1)).trans x1; replace x2 := (HB.out.cell (World.block_lt_of_cell? w _ x2)).trans x2
      obtain ⟨f0, hf0⟩ : ∃ f0, f0 = (rd_T38 l (j : Int)).f0 := ⟨_, rfl⟩
      obtain ⟨f1, hf1⟩ : ∃ f1, f1 = (rd_T38 l (j : Int)).f1 := ⟨_, rfl⟩
      have hcall := HG.out j (wr.alloc (.cells #[.int .i64 f0, .int .i64 f1] 38)) hlt (HB.out.alloc HB.out.size _); rw [← hf0] at x1 hcall; rw [← hf1] at x2 hcall; have hS : sumQ f (j + 1) = (sumQ f j + f j) % 1073741789 := rfl; generalize f j = fj at hcall hS; have HS := Aside0.mk hS; have HC := Aside0.mk hcall; have HL := Aside0.mk hlen; clear hS hcall HG hlen hf0 hf1; go_wp2_with fail; refine HC.out.mono ?_; rintro e w1 ⟨rfl, hb1⟩; have HB1 := Aside0.mk (below_then (HB.out.alloc HB.out.size (.cells #[.int .i64 f0, .int .i64 f1] 38)) (by have := HB.out.size; simp; omega) hb1); clear hb1; go_wp2_with (go_at_call 36; refine (field_Add_m.calls _ _ _ _ rfl).mono ?_; rintro e w2 ⟨rfl, hb2⟩; have HB2 := Aside0.mk (below_then HB1.out (by exact HB1.out.size) hb2); clear hb2)
      go_roundg (l.length - (j + 1))
      case measure => omega
      case rel =>
        have := HL.out; exact ⟨j + 1, by omega, rfl, by first | rfl | rw [wrap_nextB (by omega)], by rw [HS.out], HB2⟩
    · obtain rfl : j = l.length := by omega
      have c1 : decide ((l.length : Int) < (l.length : Int)) = false := decide_eq_false (by omega); go_wp2
      go_ret
      exact ⟨rfl, HB.out⟩
set_option maxRecDepth 100000 in
set_option maxHeartbeats 1000000 in
theorem recover1_c (B : Nat) (A1 : Option Addr) (c1 : Nat) (y : List Int) (i : Nat) (f0 f1 : Int) (W : World) (hB : W.cell? ⟨B, 0, none⟩ = some (.slice A1 y.length c1)) (hr : Kd.C (Kd.int .i64) W A1 y.length y) (hi : i < y.length) :
    Calls Try.prog 96 #[.int .i64 (i : Int), .agg #[.int .i64 f0, .int .i64 f1], .pointer (some ⟨B, 0, none⟩)] W fun e w' => e = .returned (.int .i64 (y.getD i 0 * f1 % 1073741789)) ∧ Below W.heap.size W w' := by
  obtain ⟨ad, e, hx⟩ := Kd.at_int hr (i : Int) (by omega) (by omega); cases e; rw [Int.toNat_natCast] at hx
  have e : rd y (i : Int) = y.getD i 0 := by unfold rd; rw [Int.toNat_natCast]
  rw [e] at hx; generalize y.getD i 0 = x at hx; have c2 : decide (i < y.length) = true := decide_eq_true hi
  have c3 : (i : Int) < (y.length : Int) := by omega
  have c4 : (0 : Int) ≤ (i : Int) := by omega
  have hb1 := World.block_lt_of_cell? W _ hB; have hb2 := World.block_lt_of_cell? W _ hx; clear e hr
  go_enter Try.func96, Try.ntmps96
  go_wp2
  obtain ⟨W1, hW1⟩ : ∃ W1, W.alloc (.cells #[.int .i64 f0, .int .i64 f1] 38) = W1 := ⟨_, rfl⟩
  rw [hW1]
  have hW : Below W.heap.size W W1 := by rw [← hW1]; exact (Below.refl _ _).alloc (Nat.le_refl _) _
  have h1 : W1.cell? ⟨B, 0, none⟩ = some (.slice (some ad) y.length c1) := (hW.cell (p := ⟨B, 0, none⟩) hb1).trans hB; have h2 : W1.cell? (ad.add i) = some (.int .i64 x) := (hW.cell hb2).trans hx
  have h3 : W1.cell? ⟨W.heap.size, 1, none⟩ = some (.int .i64 f1) := by
    rw [← hW1]; simp only [World.cell?]; rw [World.alloc_heap_new]; rfl
  have HW := Aside0.mk hW; clear hB hx hb1 hb2 hW1 hW; refine start_ (n := 8) (S := fun w' => w'.cell? ⟨B, 0, none⟩ = some (.slice (some ad) y.length c1) ∧ w'.cell? (ad.add i) = some (.int .i64 x) ∧ w'.cell? ⟨W.heap.size, 1, none⟩ = some (.int .i64 f1)) (ds := []) #[false, false, false, false, false, false, false, false] (by kernel_rfl) rfl rfl ⟨h1, h2, h3⟩ (fun hHeld => ?_); have hW3 : Below W.heap.size W W1.drew := HW.out.drew; generalize W1.drew = W3 at hHeld hW3 ⊢; have HW3 := Aside0.mk hW3; clear h1 h2 h3 hW3; refine take_ (i := 0) (N := some 6) (v := ?_) (a' := ?_) #[true, false, false, false, false, false, false, false] rfl rfl (by kernel_rfl) (fun _ _ _ h => h) (Or.inl ⟨by rfl, ?_⟩) hHeld ?_ ?_; rotate_left
  · rintro w' ⟨s0, s1, s2⟩
    go_simp
    with_reducible rfl
  rotate_left
  · simp only [Act.put, List.setIfInBounds_toArray, List.set_cons_zero, List.set_cons_succ, i64_w, i32_w]
    rfl
  refine pure_ (i := 1) (N := some 7) (v := ?_) (a' := ?_) #[true, true, false, false, false, false, false, false] rfl rfl (by kernel_rfl) (fun _ _ _ h => h) (Or.inl ⟨by rfl, ?_⟩) ?_ ?_; rotate_left
  · intro w'
    go_simp
    with_reducible rfl
  rotate_left
  · simp only [Act.put, List.setIfInBounds_toArray, List.set_cons_zero, List.set_cons_succ, i64_w, i32_w]
    rfl
  refine pure_ (i := 2) (N := some 8) (v := ?_) (a' := ?_) #[true, true, true, false, false, false, false, false] rfl rfl (by kernel_rfl) (fun _ _ _ h => h) (Or.inl ⟨by rfl, ?_⟩) ?_ ?_; rotate_left
  · intro w'
    go_simp
    with_reducible rfl
  rotate_left
  · simp only [Act.put, List.setIfInBounds_toArray, List.set_cons_zero, List.set_cons_succ, i64_w, i32_w]
    rfl
  refine take_ (i := 3) (N := some 9) (v := ?_) (a' := ?_) #[true, true, true, true, false, false, false, false] rfl rfl (by kernel_rfl) (fun _ _ _ h => h) (Or.inl ⟨by rfl, ?_⟩) hHeld ?_ ?_; rotate_left
  · rintro w' ⟨s0, s1, s2⟩
    go_simp
    with_reducible rfl
  rotate_left
  · simp only [Act.put, List.setIfInBounds_toArray, List.set_cons_zero, List.set_cons_succ, i64_w, i32_w]
    rfl
  refine pure_ (i := 4) (N := some 10) (v := ?_) (a' := ?_) #[true, true, true, true, true, false, false, false] rfl rfl (by kernel_rfl) (fun _ _ _ h => h) (Or.inl ⟨by rfl, ?_⟩) ?_ ?_; rotate_left
  · intro w'
    go_simp
    with_reducible rfl
  rotate_left
  · simp only [Act.put, List.setIfInBounds_toArray, List.set_cons_zero, List.set_cons_succ, i64_w, i32_w]
    rfl
  refine take_ (i := 5) (N := some 11) (v := ?_) (a' := ?_) #[true, true, true, true, true, true, false, false] rfl rfl (by kernel_rfl) (fun _ _ _ h => h) (Or.inl ⟨by rfl, ?_⟩) hHeld ?_ ?_; rotate_left
  · rintro w' ⟨s0, s1, s2⟩
    go_simp
    with_reducible rfl
  rotate_left
  · simp only [Act.put, List.setIfInBounds_toArray, List.set_cons_zero, List.set_cons_succ, i64_w, i32_w]
    rfl
  refine one_ (i := 6) (N := some 12) #[true, true, true, true, true, true, true, false] rfl rfl (by kernel_rfl) (by decide) (fun K hK => ?_); refine goes_ Try.func65 (by kernel_rfl) rfl #[.int .i64 x, .int .i64 f1] (by rfl) rfl rfl (by (try simp only [List.map_toArray, List.map_cons, List.map_nil]); first | done | rfl) ?_; refine (mul_c _ _ _).mono ?_; rintro e w' ⟨rfl, ⟨nd, rfl⟩⟩; refine ⟨_, rfl, hK.out _ _ ⟨pw_cell_below (pw_below_drewN (Below.refl _ _) _) hHeld.1, pw_cell_below (pw_below_drewN (Below.refl _ _) _) hHeld.2.1, pw_cell_below (pw_below_drewN (Below.refl _ _) _) hHeld.2.2⟩ (fun hHeld => ?_)⟩; clear hK K; refine pure_ (i := 7) (N := some 5) (v := ?_) (a' := ?_) #[true, true, true, true, true, true, true, true] rfl rfl (by kernel_rfl) (fun _ _ _ h => h) (Or.inl ⟨by rfl, ?_⟩) ?_ ?_; rotate_left
  · intro w'
    go_simp
    with_reducible rfl
  rotate_left
  · simp only [Act.put, List.setIfInBounds_toArray, List.set_cons_zero, List.set_cons_succ, i64_w, i32_w]
    rfl
  refine done_ (by kernel_rfl) ?_; go_wp2
  go_ret
  refine ⟨?_, ?_⟩
  · first | rfl | simp
  · exact pw_below_drewN HW3.out _
end Go.Proofs.Ytdbamhckgaoibaa.P
namespace Go.Proofs.Ytdbamhckgaoibaa.P
open Go.RowKit Go.Proofs.YtdbamhckgaoibaaW.PrintWords Go.Proofs.YtdbamhckgaoibaaW.PrintLast Go.Proofs.YtdbamhckgaoibaaW.PrintMore
set_option linter.unusedVariables false
set_option linter.unusedSimpArgs false
theorem rows_c (A0 A1 As : Option Addr) (n0 c0 n1 c1 ns cs : Nat) (w : World) : Calls Try.prog 94 #[.agg #[.slice A0 n0 c0, .slice A1 n1 c1], .slice As ns cs] w fun e w' =>
    e = .returned (.func (.func 171) #[] #[.pointer (some ⟨w.heap.size + 1, 0, none⟩), .pointer (some ⟨w.heap.size, 0, none⟩)]) ∧ w' = (w.alloc (.cells #[.slice A0 n0 c0, .slice A1 n1 c1] 25)).alloc (.cells #[.slice As ns cs] 26) := by
  have hmf : ∀ (fn : Fn) (first cap : Array Value) (w : World), (Instr.makeFunc fn first cap).run Try.prog w = .ok (.func fn first cap) w := fun _ _ _ _ => rfl
  go_enter Try.func94, Try.ntmps94
  go_wp2
  go_ret
  exact ⟨by first | rfl | (simp; done) | (simp; rfl), rfl⟩
def inQ (x : Int) : Bool := decide (0 ≤ x) && decide (x < 1073741789)
def rightS (n : Nat) (s : S38) : Bool := decide (0 ≤ s.f0) && decide (s.f0 < n) && inQ s.f1
def sharesOk (n : Nat) : Int → List S38 → Bool
  | _, [] => true
  | last, s :: l => rightS n s && decide (last < s.f0) && sharesOk n s.f0 l
def colsP (rows : List (List Int)) : Nat := if rows.length = 0 then 1 else (rows.getD 0 []).length
def targetP (rows : List (List Int)) : List Int := (List.replicate (colsP rows) 0).set 0 1
def rowsOf (rows : List (List Int)) (ls : List S38) : List (List Int) := ls.map fun s => rows.getD s.f0.toNat []
def recT (rows : List (List Int)) (ls : List S38) : Int × Bool × Int :=
  match Sig.combine (rowsOf rows ls) (targetP rows) with
  | some y => (sumQ (fun i => y.getD i 0 * (rd_T38 ls (i : Int)).f1 % 1073741789) ls.length, true, 0)
  | none => (0, false, 0)
def recQ (rows : List (List Int)) (owners : List Int) (ls : List S38) : Int × Bool × Int :=
  if checkP rows owners = 0 then
    if sharesOk rows.length (-1) ls then recT rows ls else (0, false, 340)
  else (0, false, checkP rows owners)
theorem cols_math {rows : List (List Int)} {owners : List Int} : dealing_columns.f rows owners = some (colsP rows : Int) := by
  unfold dealing_columns.f colsP
  by_cases h : rows.length = 0
  · rw [if_pos (by omega), if_pos h]; rfl
  · rw [if_neg (by omega), if_neg h, if_pos (by omega), rdL0]
theorem sharesOk_count {n : Nat} : ∀ (ls : List S38) (last : Int), sharesOk n last ls = true → -1 ≤ last → (ls.length : Int) ≤ n - 1 - last ∨ ls = []
  | [], _, _, _ => .inr rfl
  | s :: l, last, h, h1 => by
    simp only [sharesOk, Bool.and_eq_true, decide_eq_true_eq, rightS] at h; obtain ⟨⟨⟨⟨h2, h3⟩, _⟩, h4⟩, h5⟩ := h
    left
    rcases sharesOk_count l s.f0 h5 (by omega) with h6 | h6
    · rw [List.length_cons]; omega
    · subst h6; simp; omega
theorem sharesOk_all {n : Nat} : ∀ (ls : List S38) (last : Int), sharesOk n last ls = true → ∀ s ∈ ls, rightS n s = true
  | [], _, _, _, h => by cases h
  | s :: l, last, h, x, hx => by
    simp only [sharesOk, Bool.and_eq_true] at h
    rcases List.mem_cons.1 hx with rfl | hx
    · exact h.1.1
    · exact sharesOk_all l s.f0 h.2 x hx
theorem targetP_length (rows : List (List Int)) : (targetP rows).length = colsP rows := by simp [targetP]
theorem targetP_inF (rows : List (List Int)) : ∀ x ∈ targetP rows, Sig.InF x := fun x hx => by
  rcases List.mem_or_eq_of_mem_set hx with h | rfl
  · rw [List.eq_of_mem_replicate h]; exact ⟨by decide, by decide⟩
  · exact ⟨by decide, by decide⟩
theorem combOk_rec {rows : List (List Int)} {owners : List Int} {ls : List S38} (hc : checkP rows owners = 0) (hs : sharesOk rows.length (-1) ls = true) : Sig.RectT (rowsOf rows ls) (targetP rows) ∧ (rowsOf rows ls).length ≤ 64 ∧ 0 < (targetP rows).length ∧ (targetP rows).length ≤ 64 := by
  have hP := check_ok hc
  have hcol : ∀ s ∈ ls, rows.length ≠ 0 := fun s hx => by
    have := sharesOk_all ls _ hs s hx; simp only [rightS, Bool.and_eq_true, decide_eq_true_eq] at this; omega
  refine ⟨⟨fun row hr => ?_, targetP_inF rows⟩, ?_, ?_, ?_⟩
  · obtain ⟨s, hx, rfl⟩ := List.mem_map.1 hr
    have h1 := sharesOk_all ls _ hs s hx; simp only [rightS, Bool.and_eq_true, decide_eq_true_eq] at h1; have h2 := hP.row s.f0.toNat (by omega); refine ⟨?_, h2.2.2.2⟩; rw [targetP_length, colsP, if_neg (hcol s hx)]; exact h2.2.1
  · rw [rowsOf, List.length_map]
    have := hP.few
    rcases sharesOk_count ls _ hs (Int.le_refl _) with h | h
    · omega
    · rw [h]; simp
  · rw [targetP_length, colsP]
    split
    · decide
    · have := (hP.row 0 (by omega)).1
      omega
  · rw [targetP_length, colsP]
    split
    · decide
    · exact (hP.row 0 (by omega)).2.2.1
end Go.Proofs.Ytdbamhckgaoibaa.P
namespace Go.Proofs.Ytdbamhckgaoibaa.P
open Go.RowKit Go.Proofs.YtdbamhckgaoibaaW.PrintWords Go.Proofs.YtdbamhckgaoibaaW.PrintLast Go.Proofs.YtdbamhckgaoibaaW.PrintMore
def shareQ (rows : List (List Int)) (s : List Int) (i : Nat) : S38 := ⟨(i : Int), Sig.dot (rows.getD i []) s % 1073741789⟩
def sharesQ (rows : List (List Int)) (s : List Int) : List S38 := (List.range rows.length).map (shareQ rows s)
def commitQ (n : Int) : Int := (4 : Int) ^ (n % 1073741789).toNat % 2147483579
theorem pow_four (n : Int) : group_Pow.f 4 n = some (commitQ n, 0) := by
  unfold group_Pow.f
  rw [el_four]; rfl
theorem commitQ_el (a : Int) : isEl (commitQ a) = true := el_pow el_four _
theorem commitQ_nat {a : Int} {m : Nat} (h : (a % 1073741789).toNat = m % ordQ) : commitQ a = 4 ^ m % 2147483579 := by
  unfold commitQ; rw [h, ← el_pow_mod el_four]
theorem commitQ_add (a b : Int) : commitQ a * commitQ b % 2147483579 = commitQ (a + b) := by
  rw [commitQ_nat (a := a + b) (m := (a % 1073741789).toNat + (b % 1073741789).toNat) (by unfold ordQ; omega)]; unfold commitQ; rw [← Int.mul_emod, ← Int.pow_add]
theorem nat_mul_mod (a b : Int) : (a * b % 1073741789).toNat = (a % 1073741789).toNat * (b % 1073741789).toNat % ordQ := by
  have h1 : ((a % 1073741789).toNat : Int) = a % 1073741789 := by omega
  have h2 : ((b % 1073741789).toNat : Int) = b % 1073741789 := by omega
  have h3 : (((a % 1073741789).toNat * (b % 1073741789).toNat % ordQ : Nat) : Int) = a * b % 1073741789 := by
    unfold ordQ
    rw [Int.natCast_emod, Int.natCast_mul, h1, h2, Int.mul_emod a b]; rfl
  omega
theorem commitQ_pow (a e : Int) : commitQ a ^ (e % 1073741789).toNat % 2147483579 = commitQ (a * e) := by
  rw [commitQ_nat (a := a * e) (nat_mul_mod a e)]; unfold commitQ; rw [Sig.pow_emod, ← Int.pow_mul]
theorem commitQ_zero : commitQ 0 = 1 := by unfold commitQ; rfl
theorem pow_el {c : Int} (h : isEl c = true) (e : Int) : group_Pow.f c e = some (c ^ (e % 1073741789).toNat % 2147483579, 0) := by
  unfold group_Pow.f
  rw [h]; rfl
theorem valid_math (a : Int) : group_Valid.f a = some (isEl a) := by first | rfl | (unfold group_Valid.f; rfl)
theorem el_range {a : Int} (h : isEl a = true) : 1 ≤ a ∧ a < 2147483579 := ⟨((isEl_iff a).1 h).1, ((isEl_iff a).1 h).2.1⟩
theorem mul_els {a b : Int} (ha : isEl a = true) (hb : isEl b = true) : group_Mul.f a b = some (a * b % 2147483579, 0) := by
  have h1 := el_range ha; have h2 := el_range hb; have hr := mulP_range (x := a) (y := b) ⟨by omega, h1.2⟩ ⟨by omega, h2.2⟩; unfold group_Mul.f; rw [valid_math, valid_math, ha, hb]; simp only [Option.bind_some, if_true]; rw [wrap_small hr.1 (by omega), tmod_small (m := 2147483579) hr.1]
end Go.Proofs.Ytdbamhckgaoibaa.P
namespace Go.Proofs.Ytdbamhckgaoibaa.P
open Go.RowKit Go.Proofs.YtdbamhckgaoibaaW.PrintWords Go.Proofs.YtdbamhckgaoibaaW.PrintLast Go.Proofs.YtdbamhckgaoibaaW.PrintMore
theorem half_even (c a : Int) (q : Nat) : c * (a * a % 2147483579) ^ q % 2147483579 = c * a ^ (2 * q) % 2147483579 := by
  rw [← mulP_r, powP, mulP_r, sq_pow]
theorem half_odd (c a : Int) (q : Nat) : (c * a % 2147483579) * (a * a % 2147483579) ^ q % 2147483579 = c * a ^ (2 * q + 1) % 2147483579 := by
  rw [half_even, mulP_l, Int.pow_succ, Int.mul_assoc, Int.mul_comm a]
theorem rpow_l0 : ∀ (m n : Nat) (a c : Int) (k : Nat), n < 2 ^ m → n < 2147483579 → 0 ≤ a → a < 2147483579 → 0 ≤ c → c < 2147483579 → signatoryref10_power.l0 (k + m + 1) a (n : Int) c = some (c * a ^ n % 2147483579) := by
  intro m
  induction m with
  | zero =>
    intro n a c k hn _ _ _ h0 h1
    obtain rfl : n = 0 := by omega
    rw [signatoryref10_power.l0, if_neg (by omega), Int.pow_zero, Int.mul_one, Int.emod_eq_of_lt h0 h1]
  | succ m ih =>
    intro n a c k hn hb ha ha1 h0 h1; rw [signatoryref10_power.l0]
    by_cases hz : n = 0
    · subst hz
      rw [if_neg (by omega), Int.pow_zero, Int.mul_one, Int.emod_eq_of_lt h0 h1]
    · rw [if_pos (by omega)]
      have hsq := mulP_range ⟨ha, ha1⟩ ⟨ha, ha1⟩; have hca := mulP_range ⟨h0, h1⟩ ⟨ha, ha1⟩
      have e1 : Int.tmod (n : Int) 2 = ((n % 2 : Nat) : Int) := by rw [Int.tmod_eq_emod_of_nonneg (by omega)]; omega
      have e2 : wrap64 (Int.tdiv (n : Int) 2) = ((n / 2 : Nat) : Int) := by
        rw [Int.tdiv_eq_ediv_of_nonneg (by omega)]; unfold wrap64; omega
      have e3 : Int.tmod (wrap64 (a * a)) 2147483579 = a * a % 2147483579 := by rw [wrap_small hsq.1 (by omega), tmod_small hsq.1]
      have e4 : Int.tmod (wrap64 (c * a)) 2147483579 = c * a % 2147483579 := by rw [wrap_small hca.1 (by omega), tmod_small hca.1]
      rw [e1, e2, e3, e4]
      have hp : 2 ^ (m + 1) = 2 * 2 ^ m := by rw [Nat.pow_succ, Nat.mul_comm]
      have hq : n / 2 < 2 ^ m := by omega
      by_cases ho : n % 2 = 1
      · rw [if_pos (by omega), ← Nat.add_assoc, ih (n / 2) _ _ k hq (by omega) (by omega) (by omega) (by omega) (by omega), half_odd]
        rw [show 2 * (n / 2) + 1 = n by omega]
      · rw [if_neg (by omega), ← Nat.add_assoc, ih (n / 2) _ _ k hq (by omega) (by omega) (by omega) h0 h1, half_even]
        rw [show 2 * (n / 2) = n by omega]
theorem rpow_math {a : Int} {n : Nat} (ha : 0 ≤ a) (ha1 : a < 2147483579) (hn : n < 1073741824) (k : Nat) (hk : 40 ≤ k) : signatoryref10_power.f k a (n : Int) = some (a ^ n % 2147483579) := by
  unfold signatoryref10_power.f
  obtain ⟨k, rfl⟩ : ∃ k', k = k' + 30 + 1 := ⟨k - 31, by omega⟩
  rw [rpow_l0 30 n a 1 k hn (by omega) ha ha1 (by decide) (by decide), Int.one_mul]
theorem rvalid_math (a : Int) (k : Nat) (hk : 40 ≤ k) : signatoryref10_Valid.f k a = some (isEl a) := by
  unfold signatoryref10_Valid.f
  by_cases h1 : a ≥ 1
  · rw [if_pos h1]
    by_cases h2 : a < 2147483579
    · rw [if_pos h2]
      have := rpow_math (n := ordQ) (show 0 ≤ a by omega) h2 (by decide) k hk; rw [show ((ordQ : Nat) : Int) = 1073741789 from rfl] at this; rw [this, Option.bind_some]
      congr 1
      rw [Bool.eq_iff_iff, beq_iff_eq, isEl_iff]; exact ⟨fun h => ⟨h1, h2, h⟩, fun h => h.2.2⟩
    · rw [if_neg h2]
      congr 1
      refine (Bool.eq_false_iff.2 fun h => ?_).symm; exact h2 ((isEl_iff a).1 h).2.1
  · rw [if_neg h1]
    congr 1
    refine (Bool.eq_false_iff.2 fun h => ?_).symm; exact h1 ((isEl_iff a).1 h).1
theorem rexp_math (n : Int) : signatoryref10_exponent.f n = some (((n % 1073741789).toNat : Nat) : Int) := by
  unfold signatoryref10_exponent.f wrap64; have h := Int.tmod_eq_emod (a := n) (b := 1073741789); have h2 : (1073741789 : Int).natAbs = 1073741789 := rfl; rw [h2] at h; have h3 := Int.dvd_iff_emod_eq_zero (a := (1073741789 : Int)) (b := n)
  by_cases c : 0 ≤ n ∨ (1073741789 : Int) ∣ n
  · rw [if_pos c] at h
    rw [if_neg (by omega)]; congr 1; omega
  · rw [if_neg c] at h
    have : n % 1073741789 ≠ 0 := fun e => c (.inr (h3.2 e))
    rw [if_pos (by omega)]; congr 1; omega
theorem rpw_math (a n : Int) (k : Nat) (hk : 40 ≤ k) : signatoryref10_Pow.f k a n = some (if isEl a then (a ^ (n % 1073741789).toNat % 2147483579, 0) else (0, 100)) := by
  unfold signatoryref10_Pow.f; rw [rvalid_math a k hk, Option.bind_some]
  cases h : isEl a with
  | false => rfl
  | true =>
    have hr := (isEl_iff a).1 h
    rw [if_pos rfl, rexp_math, Option.bind_some, rpow_math (by omega) hr.2.1 (by omega) k hk]; rfl
end Go.Proofs.Ytdbamhckgaoibaa.P
namespace Go.Proofs.Ytdbamhckgaoibaa.P
open Go.RowKit Go.Proofs.YtdbamhckgaoibaaW.PrintWords Go.Proofs.YtdbamhckgaoibaaW.PrintLast Go.Proofs.YtdbamhckgaoibaaW.PrintMore
set_option linter.unusedVariables false
theorem inQ_not (x : Int) : (!([x] : List Int).any outQ) = inQ x := by
  rw [Bool.eq_iff_iff]
  simp [outQ, inQ]
theorem ret_i {a b : Int} (h : b = a) : Ending.returned (.int .i64 a) = .returned (.int .i64 b) := by rw [h]
theorem ret_ii {a b : Int} {p : Int × Int} (h : p = (a, b)) : Ending.returned (.tuple #[.int .i64 a, .int .i64 b]) = .returned (.tuple #[.int .i64 p.1, .int .i64 p.2]) := by rw [h]
theorem ret_bi {a : Bool} {b : Int} {p : Bool × Int} (h : p = (a, b)) : Ending.returned (.tuple #[.bool a, .int .i64 b]) = .returned (.tuple #[.bool p.1, .int .i64 p.2]) := by rw [h]
theorem ret_b {a b : Bool} (h : b = a) : Ending.returned (.bool a) = .returned (.bool b) := by rw [h]
def checkD (rows : List (List Int)) (owners cm : List Int) : Int := if checkP rows owners = 0 then (if cm.length = colsP rows ∧ cm.any noEl = false then 0 else 340) else checkP rows owners
set_option maxHeartbeats 1000000 in
theorem dcheck_w {A0 A1 A2 : Option Addr} {c0 c1 c2 : Nat} {rows : List (List Int)} {owners : List Int} {cm : List Int} {w : World} (h0 : Sl (Kd.slice 3 (Kd.int .i64)) w A0 c0 rows) (h1 : Sl (Kd.int .i64) w A1 c1 owners) (h2 : Sl (Kd.int .i64) w A2 c2 cm) :
    Calls Try.prog 100 #[.agg #[.slice A0 rows.length c0, .slice A1 owners.length c1], .slice A2 cm.length c2] w fun e w' => e = .returned (.int .i64 (checkD rows owners cm)) ∧ Below w.heap.size w w' := by
  have H_rows := Aside0.mk h0; have H_own := Aside0.mk h1; have H_cm := Aside0.mk h2; have HB := Aside0.mk (Below.refl w.heap.size w); clear h0 h1 h2
  obtain ⟨t, ht⟩ : ∃ t, t = checkP rows owners := ⟨_, rfl⟩
  have HD : Aside0 (checkD rows owners cm = if t = 0 then (if cm.length = colsP rows ∧ cm.any noEl = false then 0 else 340) else t) := ⟨by rw [ht]; rfl⟩
  have HK : Aside0 (∀ W, Sl (Kd.slice 3 (Kd.int .i64)) W A0 c0 rows → Sl (Kd.int .i64) W A1 c1 owners → Calls Try.prog 82 #[.agg #[.slice A0 rows.length c0, .slice A1 owners.length c1]] W fun e w' => e = .returned (.int .i64 t) ∧ Below W.heap.size W w') := ⟨fun W g0 g1 => by rw [ht]; exact program_Check.calls 66 A0 c0 rows A1 c1 owners _ W g0.rd g0.le g1.rd g1.le (check_math rows owners 66 (Nat.le_refl _))⟩
  clear ht
  rcases Decidable.em (t = 0) with h | h
  · skip
    subst h
    go_enter Try.func100, Try.ntmps100
    go_wp2_with fail
    obtain ⟨w1, hw⟩ : ∃ W_, W_ = w.alloc (.cells #[.slice A0 rows.length c0, .slice A1 owners.length c1] 25) := ⟨_, rfl⟩
    rw [← hw]
    have hb : Below w.heap.size w w1 := by rw [hw]; exact below_alloc1 _ _
    have hz : w.heap.size = w.heap.size := rfl
    have hs : w1.heap.size = w.heap.size + 1 := by rw [hw, ← hz]; simp
    replace H_rows := Aside0.mk (H_rows.out.below hb); replace H_own := Aside0.mk (H_own.out.below hb); replace H_cm := Aside0.mk (H_cm.out.below hb); replace HB := Aside0.mk (below_then HB.out HB.out.size hb); have H_two0 := Aside0.mk (⟨by rw [hw, ← hz]; simp only [World.cell?]; rw [World.alloc_heap_new]; rfl, by rw [hs]; omega⟩ : w1.cell? ⟨w.heap.size, 0, none⟩ = some (.slice A0 rows.length c0) ∧ w.heap.size < w1.heap.size); have H_two1 := Aside0.mk (⟨by rw [hw, ← hz]; simp only [World.cell?]; rw [World.alloc_heap_new]; rfl, by rw [hs]; omega⟩ : w1.cell? ⟨w.heap.size, 1, none⟩ = some (.slice A1 owners.length c1) ∧ w.heap.size < w1.heap.size); clear hw hb hz
    have HZ := Aside0.mk hs; clear hs
    refine (HK.out _ H_rows.out H_own.out).mono ?_; rintro e w2 ⟨rfl, hb⟩; replace H_rows := Aside0.mk (H_rows.out.below hb); replace H_own := Aside0.mk (H_own.out.below hb); replace H_cm := Aside0.mk (H_cm.out.below hb); replace H_two0 := Aside0.mk (cell_on H_two0.out hb); replace H_two1 := Aside0.mk (cell_on H_two1.out hb); replace HB := Aside0.mk (below_then HB.out HB.out.size hb); clear hb; have HC := Aside0.mk (fun W (g0 : Sl (Kd.slice 3 (Kd.int .i64)) W A0 c0 rows) (g1 : Sl (Kd.int .i64) W A1 c1 owners) => dealing_columns.calls A0 c0 rows A1 c1 owners (colsP rows : Int) W g0.rd g0.le g1.rd g1.le cols_math); generalize colsP rows = n at HC HD
    by_cases hn : cm.length = n
    · skip
      have q1 : ((cm.length : Int) == (n : Int)) = true := beq_iff_eq.mpr (by omega); have q2 : ((cm.length : Int) != (n : Int)) = false := bne_eq_false_iff_eq.mpr (by omega)
      have HN := Aside0.mk hn; clear hn
      have x_two0 := H_two0.out.1; have x_two1 := H_two1.out.1; go_wp2_with fail; clear x_two0 x_two1; refine (HC.out _ H_rows.out H_own.out).mono ?_; rintro e w3 ⟨rfl, hb⟩; replace H_rows := Aside0.mk (H_rows.out.below hb); replace H_own := Aside0.mk (H_own.out.below hb); replace H_cm := Aside0.mk (H_cm.out.below hb); replace H_two0 := Aside0.mk (cell_on H_two0.out hb); replace H_two1 := Aside0.mk (cell_on H_two1.out hb); replace HB := Aside0.mk (below_then HB.out HB.out.size hb); clear hb; have HE := Aside0.mk (contains_noEl.calls A2 c2 cm (cm.any noEl) w3 H_cm.out.rd H_cm.out.le rfl); generalize cm.any noEl = b at HE HD; go_wp2_with fail; refine HE.out.mono ?_; rintro e w9 ⟨rfl, hd⟩; have HB := Aside0.mk (below_then HB.out HB.out.size hd.below); clear hd HE
      cases b with
      | true => go_wp2; go_ret; exact ⟨ret_i (by have h_ := HD.out; simp [HN.out] at h_; exact h_), HB.out⟩
      | false => go_wp2; go_ret; exact ⟨ret_i (by have h_ := HD.out; simp [HN.out] at h_; exact h_), HB.out⟩
    · skip
      have q1 : ((cm.length : Int) == (n : Int)) = false := beq_eq_false_iff_ne.mpr (by omega); have q2 : ((cm.length : Int) != (n : Int)) = true := bne_iff_ne.mpr (by omega); have HN := Aside0.mk hn; have x_two0 := H_two0.out.1; have x_two1 := H_two1.out.1; go_wp2_with fail; clear x_two0 x_two1; refine (HC.out _ H_rows.out H_own.out).mono ?_; rintro e w3 ⟨rfl, hb⟩; replace H_rows := Aside0.mk (H_rows.out.below hb); replace H_own := Aside0.mk (H_own.out.below hb); replace H_cm := Aside0.mk (H_cm.out.below hb); replace H_two0 := Aside0.mk (cell_on H_two0.out hb); replace H_two1 := Aside0.mk (cell_on H_two1.out hb); replace HB := Aside0.mk (below_then HB.out HB.out.size hb); clear hb; go_wp2
      go_ret
      exact ⟨ret_i (by have h_ := HD.out; simp [HN.out] at h_; exact h_), HB.out⟩
  · skip
    have q1 : (t == 0) = false := beq_eq_false_iff_ne.mpr h; have q2 : (t != 0) = true := bne_iff_ne.mpr h; have HN := Aside0.mk h
    go_enter Try.func100, Try.ntmps100
    go_wp2_with fail
    obtain ⟨w1, hw⟩ : ∃ W_, W_ = w.alloc (.cells #[.slice A0 rows.length c0, .slice A1 owners.length c1] 25) := ⟨_, rfl⟩
    rw [← hw]
    have hb : Below w.heap.size w w1 := by rw [hw]; exact below_alloc1 _ _
    have hz : w.heap.size = w.heap.size := rfl
    have hs : w1.heap.size = w.heap.size + 1 := by rw [hw, ← hz]; simp
    replace H_rows := Aside0.mk (H_rows.out.below hb); replace H_own := Aside0.mk (H_own.out.below hb); replace H_cm := Aside0.mk (H_cm.out.below hb); replace HB := Aside0.mk (below_then HB.out HB.out.size hb); have H_two0 := Aside0.mk (⟨by rw [hw, ← hz]; simp only [World.cell?]; rw [World.alloc_heap_new]; rfl, by rw [hs]; omega⟩ : w1.cell? ⟨w.heap.size, 0, none⟩ = some (.slice A0 rows.length c0) ∧ w.heap.size < w1.heap.size); have H_two1 := Aside0.mk (⟨by rw [hw, ← hz]; simp only [World.cell?]; rw [World.alloc_heap_new]; rfl, by rw [hs]; omega⟩ : w1.cell? ⟨w.heap.size, 1, none⟩ = some (.slice A1 owners.length c1) ∧ w.heap.size < w1.heap.size); clear hw hb hz
    have HZ := Aside0.mk hs; clear hs
    refine (HK.out _ H_rows.out H_own.out).mono ?_; rintro e w2 ⟨rfl, hb⟩; replace H_rows := Aside0.mk (H_rows.out.below hb); replace H_own := Aside0.mk (H_own.out.below hb); replace H_cm := Aside0.mk (H_cm.out.below hb); replace H_two0 := Aside0.mk (cell_on H_two0.out hb); replace H_two1 := Aside0.mk (cell_on H_two1.out hb); replace HB := Aside0.mk (below_then HB.out HB.out.size hb); clear hb; go_wp2
    go_ret
    exact ⟨ret_i (by rw [HD.out, if_neg HN.out]), HB.out⟩
set_option maxHeartbeats 1000000 in
theorem right_w {A0 A1 : Option Addr} {c0 c1 : Nat} {rows : List (List Int)} {owners : List Int} {f0 f1 : Int} {w : World} (h0 : Sl (Kd.slice 3 (Kd.int .i64)) w A0 c0 rows) (h1 : Sl (Kd.int .i64) w A1 c1 owners) :
    Calls Try.prog 91 #[.agg #[.slice A0 rows.length c0, .slice A1 owners.length c1], .agg #[.int .i64 f0, .int .i64 f1]] w fun e w' => e = .returned (.bool (rightS rows.length ⟨f0, f1⟩)) ∧ Below w.heap.size w w' := by
  by_cases g0 : 0 ≤ f0
  · by_cases g1 : f0 < (rows.length : Int)
    · have HR : Aside0 (rightS rows.length ⟨f0, f1⟩ = !([f1] : List Int).any outQ) := ⟨by unfold rightS; rw [inQ_not, decide_eq_true g0, decide_eq_true g1]; rfl⟩
      have H_rows := Aside0.mk h0; clear h0 h1
      go_enter Try.func91, Try.ntmps91
      go_wp2_with fail; have HB := Aside0.mk (Below.refl w.heap.size w)
      obtain ⟨w1, hw⟩ : ∃ W_, W_ = w.alloc (.cells #[.slice A0 rows.length c0, .slice A1 owners.length c1] 25) := ⟨_, rfl⟩
      rw [← hw]
      have hb : Below w.heap.size w w1 := by rw [hw]; exact below_alloc1 _ _
      have hz : w.heap.size = w.heap.size := rfl
      have hs : w1.heap.size = w.heap.size + 1 := by rw [hw, ← hz]; simp
      replace HB := Aside0.mk (below_then HB.out HB.out.size hb); have H_two0 := Aside0.mk (⟨by rw [hw, ← hz]; simp only [World.cell?]; rw [World.alloc_heap_new]; rfl, by rw [hs]; omega⟩ : w1.cell? ⟨w.heap.size, 0, none⟩ = some (.slice A0 rows.length c0) ∧ w.heap.size < w1.heap.size); have H_two1 := Aside0.mk (⟨by rw [hw, ← hz]; simp only [World.cell?]; rw [World.alloc_heap_new]; rfl, by rw [hs]; omega⟩ : w1.cell? ⟨w.heap.size, 1, none⟩ = some (.slice A1 owners.length c1) ∧ w.heap.size < w1.heap.size); clear hw hb hz
      have HZ := Aside0.mk hs; clear hs
      obtain ⟨w2, hw⟩ : ∃ W_, W_ = w1.alloc (.cells #[.int .i64 f0, .int .i64 f1] 38) := ⟨_, rfl⟩
      rw [← hw]
      have hb : Below w1.heap.size w1 w2 := by rw [hw]; exact below_alloc1 _ _
      have hz : w1.heap.size = w.heap.size + 1 := HZ.out
      have hs : w2.heap.size = w.heap.size + 1 + 1 := by rw [hw, ← hz]; simp
      replace H_two0 := Aside0.mk (cell_on H_two0.out hb); replace H_two1 := Aside0.mk (cell_on H_two1.out hb); replace HB := Aside0.mk (below_then HB.out HB.out.size hb); have H_sh0 := Aside0.mk (⟨by rw [hw, ← hz]; simp only [World.cell?]; rw [World.alloc_heap_new]; rfl, by rw [hs]; omega⟩ : w2.cell? ⟨w.heap.size + 1, 0, none⟩ = some (.int .i64 f0) ∧ w.heap.size + 1 < w2.heap.size); have H_sh1 := Aside0.mk (⟨by rw [hw, ← hz]; simp only [World.cell?]; rw [World.alloc_heap_new]; rfl, by rw [hs]; omega⟩ : w2.cell? ⟨w.heap.size + 1, 1, none⟩ = some (.int .i64 f1) ∧ w.heap.size + 1 < w2.heap.size); clear hw hb hz
      have HZ := Aside0.mk hs; clear hs
      obtain ⟨w3, hw⟩ : ∃ W_, W_ = w2.alloc (.cells #[.int .i64 f1] 3) := ⟨_, rfl⟩
      rw [← hw]
      have hb : Below w2.heap.size w2 w3 := by rw [hw]; exact below_alloc1 _ _
      have hz : w2.heap.size = w.heap.size + 1 + 1 := HZ.out
      have hs : w3.heap.size = w.heap.size + 1 + 1 + 1 := by rw [hw, ← hz]; simp
      have hl : Sl (Kd.int .i64) w3 (some ⟨w.heap.size + 1 + 1, 0, none⟩) 1 [f1] := by rw [hw, ← hz]; exact Sl.ints w2 3 [f1] (by show 1 ≤ 1000000; decide)
      replace H_two0 := Aside0.mk (cell_on H_two0.out hb); replace H_two1 := Aside0.mk (cell_on H_two1.out hb); replace H_sh0 := Aside0.mk (cell_on H_sh0.out hb); replace H_sh1 := Aside0.mk (cell_on H_sh1.out hb); replace HB := Aside0.mk (below_then HB.out HB.out.size hb)
      have H_n1 := Aside0.mk hl; clear hl
      clear hw hb hz
      have HZ := Aside0.mk hs; clear hs
      refine (dealing_numbers.calls _ _ [f1] (!([f1] : List Int).any outQ) _ H_n1.out.rd H_n1.out.le (by unfold dealing_numbers.f contains_outQ.f; rfl)).mono ?_; rintro e w9 ⟨rfl, hd⟩; have HB := Aside0.mk (below_then HB.out HB.out.size hd.below); clear hd; generalize hq : (!([f1] : List Int).any outQ) = q
      have HQ := Aside0.mk hq; clear hq
      go_wp2
      go_ret
      exact ⟨ret_b (by rw [HR.out, ← HQ.out]), HB.out⟩
    · have HR : Aside0 (rightS rows.length ⟨f0, f1⟩ = false) := ⟨by unfold rightS; rw [decide_eq_false g1, Bool.and_false, Bool.false_and]⟩
      have H_rows := Aside0.mk h0; clear h0 h1
      go_enter Try.func91, Try.ntmps91
      go_wp2
      go_ret
      exact ⟨ret_b HR.out, (((Below.refl _ _).alloc (Nat.le_refl _) _).alloc (by simp) _)⟩
  · have HR : Aside0 (rightS rows.length ⟨f0, f1⟩ = false) := ⟨by unfold rightS; rw [decide_eq_false g0, Bool.false_and, Bool.false_and]⟩
    have H_rows := Aside0.mk h0; clear h0 h1
    go_enter Try.func91, Try.ntmps91
    go_wp2
    go_ret
    exact ⟨ret_b HR.out, (((Below.refl _ _).alloc (Nat.le_refl _) _).alloc (by simp) _)⟩
def pubFrom : Int → List Int → List Int → Int
  | x, c :: cs, e :: es => pubFrom (x * (c ^ (e % 1073741789).toNat % 2147483579) % 2147483579) cs es
  | x, _, _ => x
def publicD (rows : List (List Int)) (owners cm : List Int) (row : Int) : Int × Int :=
  if checkD rows owners cm = 0 then (if 0 ≤ row ∧ row < rows.length then (pubFrom 1 cm (rows.getD row.toNat []), 0) else (0, 1)) else (0, checkD rows owners cm)
theorem el_one : isEl 1 = true := by
  rw [isEl_iff, Int.one_pow]; exact ⟨by decide, by decide, by decide⟩
theorem el_powI {c : Int} (h : isEl c = true) (v : Int) : isEl (c ^ (v % 1073741789).toNat % 2147483579) = true := el_pow h _
theorem noEl_all {cm : List Int} (h : cm.any noEl = false) : ∀ c ∈ cm, isEl c = true := fun c hc => by
  have := List.any_eq_false.1 h c hc; unfold noEl at this
  simpa using this
theorem dcheck_ok {rows : List (List Int)} {owners cm : List Int} (h : checkD rows owners cm = 0) : checkP rows owners = 0 ∧ cm.length = colsP rows ∧ ∀ c ∈ cm, isEl c = true := by
  unfold checkD at h
  split at h
  · rename_i h1
    split at h
    · rename_i h2
      exact ⟨h1, h2.1, noEl_all h2.2⟩
    · cases h
  · rename_i h1
    exact absurd h h1
theorem dcheck_right {rows : List (List Int)} {owners cm : List Int} (h : checkD rows owners cm = 0) {j : Nat} (hj : j < rows.length) : (rows.getD j []).length = cm.length ∧ ∀ c ∈ cm, isEl c = true := by
  obtain ⟨h1, h2, h3⟩ := dcheck_ok h; have hP := check_ok h1; refine ⟨?_, h3⟩; rw [h2, colsP, if_neg (by omega)]; exact (hP.row j hj).2.1
theorem pub_step {x : Int} {cm row : List Int} {i : Nat} (hx : isEl x = true) (hi : i < cm.length) (hl : row.length = cm.length) (he : ∀ c ∈ cm, isEl c = true) :
    isEl (x * (cm.getD i 0 ^ (row.getD i 0 % 1073741789).toNat % 2147483579) % 2147483579) = true ∧ pubFrom (x * (cm.getD i 0 ^ (row.getD i 0 % 1073741789).toNat % 2147483579) % 2147483579) (cm.drop (i + 1)) (row.drop (i + 1)) = pubFrom x (cm.drop i) (row.drop i) := by
  have h1 : cm.getD i 0 = cm[i] := by rw [List.getD_eq_getElem?_getD, List.getElem?_eq_getElem hi]; rfl
  have h2 : row.getD i 0 = row[i] := by rw [List.getD_eq_getElem?_getD, List.getElem?_eq_getElem (by omega)]; rfl
  rw [h1, h2]; refine ⟨el_mul hx (el_powI (he _ (List.getElem_mem hi)) _), ?_⟩; rw [List.drop_eq_getElem_cons hi, List.drop_eq_getElem_cons (show i < row.length by omega), pubFrom]
set_option maxRecDepth 100000 in
set_option maxHeartbeats 4000000 in
theorem public_w {A0 A1 A2 : Option Addr} {c0 c1 c2 : Nat} {rows : List (List Int)} {owners : List Int} {cm : List Int} {row : Int} {w : World} (h0 : Sl (Kd.slice 3 (Kd.int .i64)) w A0 c0 rows) (h1 : Sl (Kd.int .i64) w A1 c1 owners) (h2 : Sl (Kd.int .i64) w A2 c2 cm) :
    Calls Try.prog 28 #[.agg #[.slice A0 rows.length c0, .slice A1 owners.length c1], .slice A2 cm.length c2, .int .i64 row] w fun e w' => e = .returned (.tuple #[.int .i64 (publicD rows owners cm row).1, .int .i64 (publicD rows owners cm row).2]) ∧ Below w.heap.size w w' := by
  have H_rows := Aside0.mk h0; have H_own := Aside0.mk h1; have H_cm := Aside0.mk h2; have HB := Aside0.mk (Below.refl w.heap.size w); clear h0 h1 h2
  obtain ⟨t, ht⟩ : ∃ t, t = checkD rows owners cm := ⟨_, rfl⟩
  have HP : Aside0 (publicD rows owners cm row = if t = 0 then (if 0 ≤ row ∧ row < rows.length then (pubFrom 1 cm (rows.getD row.toNat []), 0) else (0, 1)) else (0, t)) := ⟨by rw [ht]; rfl⟩
  have HK : Aside0 (∀ W, Sl (Kd.slice 3 (Kd.int .i64)) W A0 c0 rows → Sl (Kd.int .i64) W A1 c1 owners → Sl (Kd.int .i64) W A2 c2 cm → Calls Try.prog 100 #[.agg #[.slice A0 rows.length c0, .slice A1 owners.length c1], .slice A2 cm.length c2] W fun e w' => e = .returned (.int .i64 t) ∧ Below W.heap.size W w') := ⟨fun W g0 g1 g2 => by rw [ht]; exact dcheck_w g0 g1 g2⟩
  rcases Decidable.em (t = 0) with h | h
  · skip
    have hd0 : checkD rows owners cm = 0 := ht.symm.trans h
    have HD0 := Aside0.mk hd0; clear ht hd0
    subst h
    by_cases g0 : 0 ≤ row
    · skip
      by_cases g1 : row < (rows.length : Int)
      · skip
        have HPP : Aside0 (publicD rows owners cm row = (pubFrom 1 cm (rows.getD row.toNat []), 0)) := ⟨by rw [HP.out, if_pos rfl, if_pos ⟨g0, g1⟩]⟩
        clear HP
        go_enter Try.func28, Try.ntmps28
        go_wp2_with fail
        obtain ⟨w1, hw⟩ : ∃ W_, W_ = w.alloc (.cells #[.slice A0 rows.length c0, .slice A1 owners.length c1] 25) := ⟨_, rfl⟩
        rw [← hw]
        have hb : Below w.heap.size w w1 := by rw [hw]; exact below_alloc1 _ _
        have hz : w.heap.size = w.heap.size := rfl
        have hs : w1.heap.size = w.heap.size + 1 := by rw [hw, ← hz]; simp
        replace H_rows := Aside0.mk (H_rows.out.below hb); replace H_own := Aside0.mk (H_own.out.below hb); replace H_cm := Aside0.mk (H_cm.out.below hb); replace HB := Aside0.mk (below_then HB.out HB.out.size hb); have H_two0 := Aside0.mk (⟨by rw [hw, ← hz]; simp only [World.cell?]; rw [World.alloc_heap_new]; rfl, by rw [hs]; omega⟩ : w1.cell? ⟨w.heap.size, 0, none⟩ = some (.slice A0 rows.length c0) ∧ w.heap.size < w1.heap.size); have H_two1 := Aside0.mk (⟨by rw [hw, ← hz]; simp only [World.cell?]; rw [World.alloc_heap_new]; rfl, by rw [hs]; omega⟩ : w1.cell? ⟨w.heap.size, 1, none⟩ = some (.slice A1 owners.length c1) ∧ w.heap.size < w1.heap.size); clear hw hb hz
        have HZ := Aside0.mk hs; clear hs
        refine (HK.out _ H_rows.out H_own.out H_cm.out).mono ?_; rintro e w2 ⟨rfl, hb⟩; replace H_rows := Aside0.mk (H_rows.out.below hb); replace H_own := Aside0.mk (H_own.out.below hb); replace H_cm := Aside0.mk (H_cm.out.below hb); replace H_two0 := Aside0.mk (cell_on H_two0.out hb); replace H_two1 := Aside0.mk (cell_on H_two1.out hb); replace HB := Aside0.mk (below_then HB.out HB.out.size hb); clear hb
        obtain ⟨j, hj⟩ : ∃ j : Nat, (j : Int) = row := ⟨row.toNat, by omega⟩
        subst hj; rw [Int.toNat_natCast] at HPP; obtain ⟨q1, q2⟩ := dcheck_right HD0.out (show j < rows.length by omega)
        have HQ1 := Aside0.mk q1; have HQ2 := Aside0.mk q2; clear q1 q2 HK
        have g3 : decide (j < rows.length) = true := decide_eq_true (by omega); have n0 : decide ((j : Int) < 0) = false := decide_eq_false (by omega); have n1 : decide (rows.length ≤ j) = false := decide_eq_false (by omega); have x0 := H_two0.out.1; go_wp2_with fail; clear x0
        obtain ⟨Wr, hWr⟩ : ∃ W_, W_ = w2 := ⟨_, rfl⟩
        rw [← hWr] at H_rows H_cm H_two0 HB ⊢; clear hWr
        go_loopg [6, 30] cm.length (fun gk v6 v30 wr => ∃ (i : Nat) (x : Int), i ≤ cm.length ∧ gk = cm.length - i ∧ v30 = .int .i64 (i : Int) ∧ v6 = .int .i64 x ∧ Aside0 (isEl x = true ∧ pubFrom x (cm.drop i) ((rows.getD j []).drop i) = pubFrom 1 cm (rows.getD j []) ∧ Below Wr.heap.size Wr wr))
        case atStart => exact ⟨0, 1, Nat.zero_le _, rfl, rfl, rfl, ⟨el_one, rfl, Below.refl _ _⟩⟩
        case round =>
          obtain ⟨i, x, hi, rfl, rfl, rfl, HX⟩ := hrel
          by_cases hlt : i < cm.length
          · have d1 : decide ((i : Int) < (cm.length : Int)) = true := decide_eq_true (by omega)
            have d2 : decide (i < cm.length) = true := decide_eq_true hlt
            have d3 : (0 : Int) ≤ (i : Int) := by omega
            obtain ⟨ad, e, y1⟩ := Kd.at_int H_cm.out.rd (i : Int) (by omega) (by omega); cases e; obtain ⟨ar, Ar, cr, e, z1, z2, z3⟩ := at_L1 H_rows.out.rd (j : Int) (by omega) (by omega); cases e; rw [rd_L1_nat] at z1 z2 z3; rw [rd_nat] at y1; rw [Int.toNat_natCast] at y1 z1; obtain ⟨ae, e, u1⟩ := Kd.at_int z3 (i : Int) (by omega) (by have := HQ1.out; omega); cases e; rw [rd_nat, Int.toNat_natCast] at u1; have hstep := pub_step HX.out.1 hlt HQ1.out HQ2.out; rw [HX.out.2.1] at hstep; have HB2 := HX.out.2.2; replace y1 := (HB2.cell (World.block_lt_of_cell? Wr _ y1)).trans y1; replace z1 := (HB2.cell (World.block_lt_of_cell? Wr _ z1)).trans z1; replace u1 := (HB2.cell (World.block_lt_of_cell? Wr _ u1)).trans u1; have x0 := (HB2.cell (p := ⟨w.heap.size, 0, none⟩) H_two0.out.2).trans H_two0.out.1; have hl := HQ1.out; have HE := Aside0.mk (HQ2.out (cm.getD i 0) (by rw [List.getD_eq_getElem?_getD, List.getElem?_eq_getElem hlt]; exact List.getElem_mem hlt)); generalize cm.getD i 0 = c at y1 hstep HE; generalize (rows.getD j []).getD i 0 = v at u1 hstep; have d4 : decide (i < (rows.getD j []).length) = true := decide_eq_true (by omega)
            have d5 : (i : Int) < ((rows.getD j []).length : Int) := by omega
            generalize (rows.getD j []).length = n at z1 hl d4 d5
            have HL := Aside0.mk hl; have HST := Aside0.mk hstep; have HBB := Aside0.mk HB2; have HXE := Aside0.mk HX.out.1
            clear z2 z3 hl hstep HB2 HX; go_wp2_with fail; refine (group_Pow.calls c v _ _ _ (pow_el HE.out v)).mono ?_; rintro e wa ⟨rfl, hb⟩; have HBB2 := Aside0.mk (below_then HBB.out HBB.out.size hb); have HEP := Aside0.mk (el_powI HE.out v); generalize c ^ (v % 1073741789).toNat % 2147483579 = y at HEP HST; clear hb x0 y1 z1 u1 HBB; go_wp2_with fail; refine (group_Mul.calls x y _ _ _ (mul_els HXE.out HEP.out)).mono ?_; rintro e wb ⟨rfl, hd⟩; have HB3 := Aside0.mk (below_then HBB2.out HBB2.out.size hd.below); clear hd HBB2; go_wp2
            go_roundg (cm.length - (i + 1))
            case measure => omega
            case rel => exact ⟨i + 1, x * y % 2147483579, by omega, rfl, by first | rfl | rw [wrap_nextB (by have := H_cm.out.rd.2.1; omega)], rfl, ⟨HST.out.1, HST.out.2, HB3.out⟩⟩
          · obtain rfl : i = cm.length := by omega
            have d1 : decide ((cm.length : Int) < (cm.length : Int)) = false := decide_eq_false (by omega); have hx := HX.out.2.1; rw [List.drop_length] at hx; have hx : x = pubFrom 1 cm (rows.getD j []) := hx
            have HXX := Aside0.mk hx; clear hx
            go_wp2
            go_ret2
            exact ⟨ret_ii (by rw [HPP.out, ← HXX.out]), below_then HB.out HB.out.size HX.out.2.2⟩
      · skip
        have HPP : Aside0 (publicD rows owners cm row = (0, 1)) := ⟨by rw [HP.out, if_pos rfl, if_neg (fun q => g1 q.2)]⟩
        clear HP; have n0 : decide (row < 0) = false := decide_eq_false (by omega); have n1 : decide ((rows.length : Int) ≤ row) = true := decide_eq_true (by omega); clear g0 g1
        go_enter Try.func28, Try.ntmps28
        go_wp2_with fail
        obtain ⟨w1, hw⟩ : ∃ W_, W_ = w.alloc (.cells #[.slice A0 rows.length c0, .slice A1 owners.length c1] 25) := ⟨_, rfl⟩
        rw [← hw]
        have hb : Below w.heap.size w w1 := by rw [hw]; exact below_alloc1 _ _
        have hz : w.heap.size = w.heap.size := rfl
        have hs : w1.heap.size = w.heap.size + 1 := by rw [hw, ← hz]; simp
        replace H_rows := Aside0.mk (H_rows.out.below hb); replace H_own := Aside0.mk (H_own.out.below hb); replace H_cm := Aside0.mk (H_cm.out.below hb); replace HB := Aside0.mk (below_then HB.out HB.out.size hb); have H_two0 := Aside0.mk (⟨by rw [hw, ← hz]; simp only [World.cell?]; rw [World.alloc_heap_new]; rfl, by rw [hs]; omega⟩ : w1.cell? ⟨w.heap.size, 0, none⟩ = some (.slice A0 rows.length c0) ∧ w.heap.size < w1.heap.size); have H_two1 := Aside0.mk (⟨by rw [hw, ← hz]; simp only [World.cell?]; rw [World.alloc_heap_new]; rfl, by rw [hs]; omega⟩ : w1.cell? ⟨w.heap.size, 1, none⟩ = some (.slice A1 owners.length c1) ∧ w.heap.size < w1.heap.size); clear hw hb hz
        have HZ := Aside0.mk hs; clear hs
        refine (HK.out _ H_rows.out H_own.out H_cm.out).mono ?_; rintro e w2 ⟨rfl, hb⟩; replace H_rows := Aside0.mk (H_rows.out.below hb); replace H_own := Aside0.mk (H_own.out.below hb); replace H_cm := Aside0.mk (H_cm.out.below hb); replace H_two0 := Aside0.mk (cell_on H_two0.out hb); replace H_two1 := Aside0.mk (cell_on H_two1.out hb); replace HB := Aside0.mk (below_then HB.out HB.out.size hb); clear hb; have x_two0 := H_two0.out.1; go_wp2
        go_ret2
        exact ⟨ret_ii HPP.out, HB.out⟩
    · skip
      have HPP : Aside0 (publicD rows owners cm row = (0, 1)) := ⟨by rw [HP.out, if_pos rfl, if_neg (fun q => g0 q.1)]⟩
      clear HP; have n0 : decide (row < 0) = true := decide_eq_true (by omega); clear g0
      go_enter Try.func28, Try.ntmps28
      go_wp2_with fail
      obtain ⟨w1, hw⟩ : ∃ W_, W_ = w.alloc (.cells #[.slice A0 rows.length c0, .slice A1 owners.length c1] 25) := ⟨_, rfl⟩
      rw [← hw]
      have hb : Below w.heap.size w w1 := by rw [hw]; exact below_alloc1 _ _
      have hz : w.heap.size = w.heap.size := rfl
      have hs : w1.heap.size = w.heap.size + 1 := by rw [hw, ← hz]; simp
      replace H_rows := Aside0.mk (H_rows.out.below hb); replace H_own := Aside0.mk (H_own.out.below hb); replace H_cm := Aside0.mk (H_cm.out.below hb); replace HB := Aside0.mk (below_then HB.out HB.out.size hb); have H_two0 := Aside0.mk (⟨by rw [hw, ← hz]; simp only [World.cell?]; rw [World.alloc_heap_new]; rfl, by rw [hs]; omega⟩ : w1.cell? ⟨w.heap.size, 0, none⟩ = some (.slice A0 rows.length c0) ∧ w.heap.size < w1.heap.size); have H_two1 := Aside0.mk (⟨by rw [hw, ← hz]; simp only [World.cell?]; rw [World.alloc_heap_new]; rfl, by rw [hs]; omega⟩ : w1.cell? ⟨w.heap.size, 1, none⟩ = some (.slice A1 owners.length c1) ∧ w.heap.size < w1.heap.size); clear hw hb hz
      have HZ := Aside0.mk hs; clear hs
      refine (HK.out _ H_rows.out H_own.out H_cm.out).mono ?_; rintro e w2 ⟨rfl, hb⟩; replace H_rows := Aside0.mk (H_rows.out.below hb); replace H_own := Aside0.mk (H_own.out.below hb); replace H_cm := Aside0.mk (H_cm.out.below hb); replace H_two0 := Aside0.mk (cell_on H_two0.out hb); replace H_two1 := Aside0.mk (cell_on H_two1.out hb); replace HB := Aside0.mk (below_then HB.out HB.out.size hb); clear hb; go_wp2
      go_ret2
      exact ⟨ret_ii HPP.out, HB.out⟩
  · skip
    clear ht; have q1 : (t == 0) = false := beq_eq_false_iff_ne.mpr h; have q2 : (t != 0) = true := bne_iff_ne.mpr h; have HN := Aside0.mk h
    go_enter Try.func28, Try.ntmps28
    go_wp2_with fail
    obtain ⟨w1, hw⟩ : ∃ W_, W_ = w.alloc (.cells #[.slice A0 rows.length c0, .slice A1 owners.length c1] 25) := ⟨_, rfl⟩
    rw [← hw]
    have hb : Below w.heap.size w w1 := by rw [hw]; exact below_alloc1 _ _
    have hz : w.heap.size = w.heap.size := rfl
    have hs : w1.heap.size = w.heap.size + 1 := by rw [hw, ← hz]; simp
    replace H_rows := Aside0.mk (H_rows.out.below hb); replace H_own := Aside0.mk (H_own.out.below hb); replace H_cm := Aside0.mk (H_cm.out.below hb); replace HB := Aside0.mk (below_then HB.out HB.out.size hb); have H_two0 := Aside0.mk (⟨by rw [hw, ← hz]; simp only [World.cell?]; rw [World.alloc_heap_new]; rfl, by rw [hs]; omega⟩ : w1.cell? ⟨w.heap.size, 0, none⟩ = some (.slice A0 rows.length c0) ∧ w.heap.size < w1.heap.size); have H_two1 := Aside0.mk (⟨by rw [hw, ← hz]; simp only [World.cell?]; rw [World.alloc_heap_new]; rfl, by rw [hs]; omega⟩ : w1.cell? ⟨w.heap.size, 1, none⟩ = some (.slice A1 owners.length c1) ∧ w.heap.size < w1.heap.size); clear hw hb hz
    have HZ := Aside0.mk hs; clear hs
    refine (HK.out _ H_rows.out H_own.out H_cm.out).mono ?_; rintro e w2 ⟨rfl, hb⟩; replace H_rows := Aside0.mk (H_rows.out.below hb); replace H_own := Aside0.mk (H_own.out.below hb); replace H_cm := Aside0.mk (H_cm.out.below hb); replace H_two0 := Aside0.mk (cell_on H_two0.out hb); replace H_two1 := Aside0.mk (cell_on H_two1.out hb); replace HB := Aside0.mk (below_then HB.out HB.out.size hb); clear hb; go_wp2
    go_ret2
    exact ⟨ret_ii (by rw [HP.out, if_neg HN.out]), HB.out⟩
def fitsD (rows : List (List Int)) (owners cm : List Int) (row v : Int) : Bool × Int :=
  if checkD rows owners cm = 0 then (if rightS rows.length ⟨row, v⟩ then (commitQ v == (publicD rows owners cm row).1, 0) else (false, 340)) else (false, checkD rows owners cm)
theorem rightS_row {n : Nat} {row v : Int} (h : rightS n ⟨row, v⟩ = true) : 0 ≤ row ∧ row < n := by
  unfold rightS at h; simp only [Bool.and_eq_true, decide_eq_true_eq] at h; exact h.1
set_option maxRecDepth 100000 in
set_option maxHeartbeats 4000000 in
theorem fits_w {A0 A1 A2 : Option Addr} {c0 c1 c2 : Nat} {rows : List (List Int)} {owners : List Int} {cm : List Int} {row v : Int} {w : World} (h0 : Sl (Kd.slice 3 (Kd.int .i64)) w A0 c0 rows) (h1 : Sl (Kd.int .i64) w A1 c1 owners) (h2 : Sl (Kd.int .i64) w A2 c2 cm) :
    Calls Try.prog 30 #[.agg #[.slice A0 rows.length c0, .slice A1 owners.length c1], .slice A2 cm.length c2, .agg #[.int .i64 row, .int .i64 v]] w fun e w' => e = .returned (.tuple #[.bool (fitsD rows owners cm row v).1, .int .i64 (fitsD rows owners cm row v).2]) ∧ Below w.heap.size w w' := by
  have H_rows := Aside0.mk h0; have H_own := Aside0.mk h1; have H_cm := Aside0.mk h2; have HB := Aside0.mk (Below.refl w.heap.size w); clear h0 h1 h2
  obtain ⟨t, ht⟩ : ∃ t, t = checkD rows owners cm := ⟨_, rfl⟩
  have HK : Aside0 (∀ W, Sl (Kd.slice 3 (Kd.int .i64)) W A0 c0 rows → Sl (Kd.int .i64) W A1 c1 owners → Sl (Kd.int .i64) W A2 c2 cm → Calls Try.prog 100 #[.agg #[.slice A0 rows.length c0, .slice A1 owners.length c1], .slice A2 cm.length c2] W fun e w' => e = .returned (.int .i64 t) ∧ Below W.heap.size W w') := ⟨fun W g0 g1 g2 => by rw [ht]; exact dcheck_w g0 g1 g2⟩
  rcases Decidable.em (t = 0) with h | h
  · skip
    have hd0 : checkD rows owners cm = 0 := ht.symm.trans h; clear ht; subst h
    cases hr : rightS rows.length ⟨row, v⟩ with
    | false =>
      have HF : Aside0 (fitsD rows owners cm row v = (false, 340)) := ⟨by unfold fitsD; rw [if_pos hd0, hr]; rfl⟩
      have HR := Aside0.mk hr; clear hr hd0
      go_enter Try.func30, Try.ntmps30
      go_wp2_with fail
      obtain ⟨w1, hw⟩ : ∃ W_, W_ = w.alloc (.cells #[.slice A0 rows.length c0, .slice A1 owners.length c1] 25) := ⟨_, rfl⟩
      rw [← hw]
      have hb : Below w.heap.size w w1 := by rw [hw]; exact below_alloc1 _ _
      have hz : w.heap.size = w.heap.size := rfl
      have hs : w1.heap.size = w.heap.size + 1 := by rw [hw, ← hz]; simp
      replace H_rows := Aside0.mk (H_rows.out.below hb); replace H_own := Aside0.mk (H_own.out.below hb); replace H_cm := Aside0.mk (H_cm.out.below hb); replace HB := Aside0.mk (below_then HB.out HB.out.size hb); have H_two0 := Aside0.mk (⟨by rw [hw, ← hz]; simp only [World.cell?]; rw [World.alloc_heap_new]; rfl, by rw [hs]; omega⟩ : w1.cell? ⟨w.heap.size, 0, none⟩ = some (.slice A0 rows.length c0) ∧ w.heap.size < w1.heap.size); have H_two1 := Aside0.mk (⟨by rw [hw, ← hz]; simp only [World.cell?]; rw [World.alloc_heap_new]; rfl, by rw [hs]; omega⟩ : w1.cell? ⟨w.heap.size, 1, none⟩ = some (.slice A1 owners.length c1) ∧ w.heap.size < w1.heap.size); clear hw hb hz
      have HZ := Aside0.mk hs; clear hs
      obtain ⟨w2, hw⟩ : ∃ W_, W_ = w1.alloc (.cells #[.int .i64 row, .int .i64 v] 38) := ⟨_, rfl⟩
      rw [← hw]
      have hb : Below w1.heap.size w1 w2 := by rw [hw]; exact below_alloc1 _ _
      have hz : w1.heap.size = w.heap.size + 1 := HZ.out
      have hs : w2.heap.size = w.heap.size + 1 + 1 := by rw [hw, ← hz]; simp
      replace H_rows := Aside0.mk (H_rows.out.below hb); replace H_own := Aside0.mk (H_own.out.below hb); replace H_cm := Aside0.mk (H_cm.out.below hb); replace H_two0 := Aside0.mk (cell_on H_two0.out hb); replace H_two1 := Aside0.mk (cell_on H_two1.out hb); replace HB := Aside0.mk (below_then HB.out HB.out.size hb); have H_sh0 := Aside0.mk (⟨by rw [hw, ← hz]; simp only [World.cell?]; rw [World.alloc_heap_new]; rfl, by rw [hs]; omega⟩ : w2.cell? ⟨w.heap.size + 1, 0, none⟩ = some (.int .i64 row) ∧ w.heap.size + 1 < w2.heap.size); have H_sh1 := Aside0.mk (⟨by rw [hw, ← hz]; simp only [World.cell?]; rw [World.alloc_heap_new]; rfl, by rw [hs]; omega⟩ : w2.cell? ⟨w.heap.size + 1, 1, none⟩ = some (.int .i64 v) ∧ w.heap.size + 1 < w2.heap.size); clear hw hb hz
      have HZ := Aside0.mk hs; clear hs
      refine (HK.out _ H_rows.out H_own.out H_cm.out).mono ?_; rintro e w3 ⟨rfl, hb⟩; replace H_rows := Aside0.mk (H_rows.out.below hb); replace H_own := Aside0.mk (H_own.out.below hb); replace H_cm := Aside0.mk (H_cm.out.below hb); replace H_two0 := Aside0.mk (cell_on H_two0.out hb); replace H_two1 := Aside0.mk (cell_on H_two1.out hb); replace H_sh0 := Aside0.mk (cell_on H_sh0.out hb); replace H_sh1 := Aside0.mk (cell_on H_sh1.out hb); replace HB := Aside0.mk (below_then HB.out HB.out.size hb); clear hb; have x_two0 := H_two0.out.1; have x_two1 := H_two1.out.1; have x_sh0 := H_sh0.out.1; have x_sh1 := H_sh1.out.1; go_wp2_with fail; clear x_two0 x_two1 x_sh0 x_sh1; have HQ := right_w (f0 := row) (f1 := v) H_rows.out H_own.out; rw [HR.out] at HQ; refine (HQ).mono ?_; rintro e w4 ⟨rfl, hb⟩; replace H_rows := Aside0.mk (H_rows.out.below hb); replace H_own := Aside0.mk (H_own.out.below hb); replace H_cm := Aside0.mk (H_cm.out.below hb); replace H_two0 := Aside0.mk (cell_on H_two0.out hb); replace H_two1 := Aside0.mk (cell_on H_two1.out hb); replace H_sh0 := Aside0.mk (cell_on H_sh0.out hb); replace H_sh1 := Aside0.mk (cell_on H_sh1.out hb); replace HB := Aside0.mk (below_then HB.out HB.out.size hb); clear hb; clear HQ; go_wp2
      go_ret2
      exact ⟨ret_bi HF.out, HB.out⟩
    | true =>
      obtain ⟨g0, g1⟩ := rightS_row hr
      obtain ⟨y, hy⟩ : ∃ y, publicD rows owners cm row = (y, 0) := ⟨_, by unfold publicD; rw [if_pos hd0, if_pos ⟨g0, g1⟩]⟩
      have HF : Aside0 (fitsD rows owners cm row v = (commitQ v == y, 0)) := ⟨by unfold fitsD; rw [if_pos hd0, hr, hy]; rfl⟩
      have HR := Aside0.mk hr; have HY := Aside0.mk hy; clear hr hd0 hy g0 g1
      go_enter Try.func30, Try.ntmps30
      go_wp2_with fail
      obtain ⟨w1, hw⟩ : ∃ W_, W_ = w.alloc (.cells #[.slice A0 rows.length c0, .slice A1 owners.length c1] 25) := ⟨_, rfl⟩
      rw [← hw]
      have hb : Below w.heap.size w w1 := by rw [hw]; exact below_alloc1 _ _
      have hz : w.heap.size = w.heap.size := rfl
      have hs : w1.heap.size = w.heap.size + 1 := by rw [hw, ← hz]; simp
      replace H_rows := Aside0.mk (H_rows.out.below hb); replace H_own := Aside0.mk (H_own.out.below hb); replace H_cm := Aside0.mk (H_cm.out.below hb); replace HB := Aside0.mk (below_then HB.out HB.out.size hb); have H_two0 := Aside0.mk (⟨by rw [hw, ← hz]; simp only [World.cell?]; rw [World.alloc_heap_new]; rfl, by rw [hs]; omega⟩ : w1.cell? ⟨w.heap.size, 0, none⟩ = some (.slice A0 rows.length c0) ∧ w.heap.size < w1.heap.size); have H_two1 := Aside0.mk (⟨by rw [hw, ← hz]; simp only [World.cell?]; rw [World.alloc_heap_new]; rfl, by rw [hs]; omega⟩ : w1.cell? ⟨w.heap.size, 1, none⟩ = some (.slice A1 owners.length c1) ∧ w.heap.size < w1.heap.size); clear hw hb hz
      have HZ := Aside0.mk hs; clear hs
      obtain ⟨w2, hw⟩ : ∃ W_, W_ = w1.alloc (.cells #[.int .i64 row, .int .i64 v] 38) := ⟨_, rfl⟩
      rw [← hw]
      have hb : Below w1.heap.size w1 w2 := by rw [hw]; exact below_alloc1 _ _
      have hz : w1.heap.size = w.heap.size + 1 := HZ.out
      have hs : w2.heap.size = w.heap.size + 1 + 1 := by rw [hw, ← hz]; simp
      replace H_rows := Aside0.mk (H_rows.out.below hb); replace H_own := Aside0.mk (H_own.out.below hb); replace H_cm := Aside0.mk (H_cm.out.below hb); replace H_two0 := Aside0.mk (cell_on H_two0.out hb); replace H_two1 := Aside0.mk (cell_on H_two1.out hb); replace HB := Aside0.mk (below_then HB.out HB.out.size hb); have H_sh0 := Aside0.mk (⟨by rw [hw, ← hz]; simp only [World.cell?]; rw [World.alloc_heap_new]; rfl, by rw [hs]; omega⟩ : w2.cell? ⟨w.heap.size + 1, 0, none⟩ = some (.int .i64 row) ∧ w.heap.size + 1 < w2.heap.size); have H_sh1 := Aside0.mk (⟨by rw [hw, ← hz]; simp only [World.cell?]; rw [World.alloc_heap_new]; rfl, by rw [hs]; omega⟩ : w2.cell? ⟨w.heap.size + 1, 1, none⟩ = some (.int .i64 v) ∧ w.heap.size + 1 < w2.heap.size); clear hw hb hz
      have HZ := Aside0.mk hs; clear hs
      refine (HK.out _ H_rows.out H_own.out H_cm.out).mono ?_; rintro e w3 ⟨rfl, hb⟩; replace H_rows := Aside0.mk (H_rows.out.below hb); replace H_own := Aside0.mk (H_own.out.below hb); replace H_cm := Aside0.mk (H_cm.out.below hb); replace H_two0 := Aside0.mk (cell_on H_two0.out hb); replace H_two1 := Aside0.mk (cell_on H_two1.out hb); replace H_sh0 := Aside0.mk (cell_on H_sh0.out hb); replace H_sh1 := Aside0.mk (cell_on H_sh1.out hb); replace HB := Aside0.mk (below_then HB.out HB.out.size hb); clear hb; have x_two0 := H_two0.out.1; have x_two1 := H_two1.out.1; have x_sh0 := H_sh0.out.1; have x_sh1 := H_sh1.out.1; go_wp2_with fail; clear x_two0 x_two1 x_sh0 x_sh1; have HQ := right_w (f0 := row) (f1 := v) H_rows.out H_own.out; rw [HR.out] at HQ; refine (HQ).mono ?_; rintro e w4 ⟨rfl, hb⟩; replace H_rows := Aside0.mk (H_rows.out.below hb); replace H_own := Aside0.mk (H_own.out.below hb); replace H_cm := Aside0.mk (H_cm.out.below hb); replace H_two0 := Aside0.mk (cell_on H_two0.out hb); replace H_two1 := Aside0.mk (cell_on H_two1.out hb); replace H_sh0 := Aside0.mk (cell_on H_sh0.out hb); replace H_sh1 := Aside0.mk (cell_on H_sh1.out hb); replace HB := Aside0.mk (below_then HB.out HB.out.size hb); clear hb; clear HQ; have x_two0 := H_two0.out.1; have x_two1 := H_two1.out.1; have x_sh0 := H_sh0.out.1; go_wp2_with fail; clear x_two0 x_two1 x_sh0; have HQ := public_w (row := row) H_rows.out H_own.out H_cm.out; rw [HY.out] at HQ; refine (HQ).mono ?_; rintro e w5 ⟨rfl, hb⟩; clear H_rows; clear H_own; clear H_cm; clear H_two0; clear H_two1; replace H_sh0 := Aside0.mk (cell_on H_sh0.out hb); replace H_sh1 := Aside0.mk (cell_on H_sh1.out hb); replace HB := Aside0.mk (below_then HB.out HB.out.size hb); clear hb; clear HQ; have x_sh1 := H_sh1.out.1; go_wp2_with fail; clear x_sh1; refine (group_Pow.calls 4 v _ _ _ (pow_four v)).mono ?_; rintro e w6 ⟨rfl, hb⟩; replace H_sh0 := Aside0.mk (cell_on H_sh0.out hb); replace H_sh1 := Aside0.mk (cell_on H_sh1.out hb); replace HB := Aside0.mk (below_then HB.out HB.out.size hb); clear hb; generalize commitQ v = z at HF ⊢; go_wp2
      go_ret2
      exact ⟨ret_bi HF.out, HB.out⟩
  · skip
    have HF : Aside0 (fitsD rows owners cm row v = (false, t)) := ⟨by unfold fitsD; rw [← ht, if_neg h]⟩
    clear ht; have q1 : (t == 0) = false := beq_eq_false_iff_ne.mpr h; have q2 : (t != 0) = true := bne_iff_ne.mpr h
    go_enter Try.func30, Try.ntmps30
    go_wp2_with fail
    obtain ⟨w1, hw⟩ : ∃ W_, W_ = w.alloc (.cells #[.slice A0 rows.length c0, .slice A1 owners.length c1] 25) := ⟨_, rfl⟩
    rw [← hw]
    have hb : Below w.heap.size w w1 := by rw [hw]; exact below_alloc1 _ _
    have hz : w.heap.size = w.heap.size := rfl
    have hs : w1.heap.size = w.heap.size + 1 := by rw [hw, ← hz]; simp
    replace H_rows := Aside0.mk (H_rows.out.below hb); replace H_own := Aside0.mk (H_own.out.below hb); replace H_cm := Aside0.mk (H_cm.out.below hb); replace HB := Aside0.mk (below_then HB.out HB.out.size hb); have H_two0 := Aside0.mk (⟨by rw [hw, ← hz]; simp only [World.cell?]; rw [World.alloc_heap_new]; rfl, by rw [hs]; omega⟩ : w1.cell? ⟨w.heap.size, 0, none⟩ = some (.slice A0 rows.length c0) ∧ w.heap.size < w1.heap.size); have H_two1 := Aside0.mk (⟨by rw [hw, ← hz]; simp only [World.cell?]; rw [World.alloc_heap_new]; rfl, by rw [hs]; omega⟩ : w1.cell? ⟨w.heap.size, 1, none⟩ = some (.slice A1 owners.length c1) ∧ w.heap.size < w1.heap.size); clear hw hb hz
    have HZ := Aside0.mk hs; clear hs
    obtain ⟨w2, hw⟩ : ∃ W_, W_ = w1.alloc (.cells #[.int .i64 row, .int .i64 v] 38) := ⟨_, rfl⟩
    rw [← hw]
    have hb : Below w1.heap.size w1 w2 := by rw [hw]; exact below_alloc1 _ _
    have hz : w1.heap.size = w.heap.size + 1 := HZ.out
    have hs : w2.heap.size = w.heap.size + 1 + 1 := by rw [hw, ← hz]; simp
    replace H_rows := Aside0.mk (H_rows.out.below hb); replace H_own := Aside0.mk (H_own.out.below hb); replace H_cm := Aside0.mk (H_cm.out.below hb); replace H_two0 := Aside0.mk (cell_on H_two0.out hb); replace H_two1 := Aside0.mk (cell_on H_two1.out hb); replace HB := Aside0.mk (below_then HB.out HB.out.size hb); have H_sh0 := Aside0.mk (⟨by rw [hw, ← hz]; simp only [World.cell?]; rw [World.alloc_heap_new]; rfl, by rw [hs]; omega⟩ : w2.cell? ⟨w.heap.size + 1, 0, none⟩ = some (.int .i64 row) ∧ w.heap.size + 1 < w2.heap.size); have H_sh1 := Aside0.mk (⟨by rw [hw, ← hz]; simp only [World.cell?]; rw [World.alloc_heap_new]; rfl, by rw [hs]; omega⟩ : w2.cell? ⟨w.heap.size + 1, 1, none⟩ = some (.int .i64 v) ∧ w.heap.size + 1 < w2.heap.size); clear hw hb hz
    have HZ := Aside0.mk hs; clear hs
    refine (HK.out _ H_rows.out H_own.out H_cm.out).mono ?_; rintro e w3 ⟨rfl, hb⟩; replace H_rows := Aside0.mk (H_rows.out.below hb); replace H_own := Aside0.mk (H_own.out.below hb); replace H_cm := Aside0.mk (H_cm.out.below hb); replace H_two0 := Aside0.mk (cell_on H_two0.out hb); replace H_two1 := Aside0.mk (cell_on H_two1.out hb); replace H_sh0 := Aside0.mk (cell_on H_sh0.out hb); replace H_sh1 := Aside0.mk (cell_on H_sh1.out hb); replace HB := Aside0.mk (below_then HB.out HB.out.size hb); clear hb; go_wp2
    go_ret2
    exact ⟨ret_bi HF.out, HB.out⟩
end Go.Proofs.Ytdbamhckgaoibaa.P
