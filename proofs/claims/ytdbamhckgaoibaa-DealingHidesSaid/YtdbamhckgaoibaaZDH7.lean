/- A part of the proof of DealingHides: program.question: the rows of people, their indices, and the target.; linear.Separate.; program.Accepts and program.Refuses, of right programs and people.; The calls of signatoryref34.Of, signatorylaw34.people come to what their functions in Lean say.; The contracts of chapter 34's functions, for slices that are only read.; The sanity examples of chapter 34, reckoned.; The sanity function of chapter 34 returns true.; People, and the shares of people, in plain words; DealingEnough holds. -/
import Derived.Test.YtdbamhckgaoibaaZDH6
import Derived.Deep.RegionHeld3
import Derived.Sort.CutIn
namespace Go.Proofs.Ytdbamhckgaoibaa.P
open Go.RowKit Go.Proofs.YtdbamhckgaoibaaW.PrintWords Go.Proofs.YtdbamhckgaoibaaW.PrintLast Go.Proofs.YtdbamhckgaoibaaW.PrintMore
attribute [local go_sem] Oper.semAt_some
set_option linter.unusedVariables false
set_option linter.unusedSimpArgs false
theorem people_all : ∀ {l : List Int} {last : Int}, peopleOk last l = true → ∀ n ∈ l, 0 ≤ n ∧ n ≤ 63 ∧ last < n
  | [], _, _, n, h => by cases h
  | m :: l, last, h, n, hn => by
    unfold peopleOk at h
    simp only [Bool.and_eq_true, decide_eq_true_eq] at h
    obtain ⟨⟨⟨h1, h2⟩, h3⟩, h4⟩ := h
    rcases List.mem_cons.1 hn with rfl | hn
    · exact ⟨h1, h2, h3⟩
    · have := people_all h4 n hn
      exact ⟨this.1, this.2.1, by omega⟩
theorem people_lt : ∀ {l : List Int} {last : Int}, peopleOk last l = true → l.Pairwise (· < ·)
  | [], _, _ => List.Pairwise.nil
  | m :: l, last, h => by
    unfold peopleOk at h
    simp only [Bool.and_eq_true, decide_eq_true_eq] at h
    exact List.Pairwise.cons (fun n hn => (people_all h.2 n hn).2.2) (people_lt h.2)
theorem people_le {l : List Int} {last : Int} (h : peopleOk last l = true) : l.Pairwise (· ≤ ·) := (people_lt h).imp (fun h => Int.le_of_lt h)
theorem people_few : ∀ {l : List Int} {last : Int}, peopleOk last l = true → -1 ≤ last → last ≤ 63 → (l.length : Int) ≤ 63 - last
  | [], last, _, _, h => by simp; omega
  | m :: l, last, h, h0, h1 => by
    unfold peopleOk at h
    simp only [Bool.and_eq_true, decide_eq_true_eq] at h
    have := people_few h.2 (by omega) (by omega)
    rw [List.length_cons]; omega
theorem people_step {who : List Int} {last : Int} {k : Nat} (hk : k < who.length) (h : peopleOk last (who.drop k) = true) : 0 ≤ who.getD k 0 ∧ who.getD k 0 ≤ 63 ∧ last < who.getD k 0 ∧ peopleOk (who.getD k 0) (who.drop (k + 1)) = true := by
  have e : who.getD k 0 = who[k] := by rw [List.getD_eq_getElem?_getD, List.getElem?_eq_getElem hk]; rfl
  rw [List.drop_eq_getElem_cons hk] at h
  unfold peopleOk at h
  simp only [Bool.and_eq_true, decide_eq_true_eq] at h
  rw [e]
  exact ⟨h.1.1.1, h.1.1.2, h.1.2, h.2⟩
structure QF (W2 w5 : World) (B4 B5 : Nat) (u4 u5 v4 : Value) (n4 : Nat) (xs4 : List Value) (v5 : Value) (n5 : Nat) (xs5 : List Value) (W : World) : Prop where
  bx4 : Bx W B4 u4
  bx5 : Bx W B5 u5
  own4 : W.ownsRow w5.heap.size 23 1 v4 n4 xs4
  own5 : W.ownsRow w5.heap.size 3 1 v5 n5 xs5
  dis : ∀ b, v4.ownBlock = some b → v5.ownBlock ≠ some b
  chg : Chg (fun b => b = B4 ∨ b = B5) w5 W
  keep : KeepsOthers W2 W
  l4 : B4 < w5.heap.size
  l5 : B5 < w5.heap.size
theorem QF.below {W2 w5 : World} {B4 B5 : Nat} {u4 u5 v4 : Value} {n4 : Nat} {xs4 : List Value} {v5 : Value} {n5 : Nat} {xs5 : List Value} {W W' : World} (h : QF W2 w5 B4 B5 u4 u5 v4 n4 xs4 v5 n5 xs5 W) (hb : Below W.heap.size W W') : QF W2 w5 B4 B5 u4 u5 v4 n4 xs4 v5 n5 xs5 W' :=
  ⟨h.bx4.below hb, h.bx5.below hb, own_below h.own4 hb, own_below h.own5 hb, h.dis, h.chg.then_below hb, h.keep.trans (keeps_below hb), h.l4, h.l5⟩
theorem QF.app4 {W2 w5 : World} {B4 B5 : Nat} {u4 u5 v4 : Value} {n4 : Nat} {xs4 : List Value} {v5 : Value} {n5 : Nat} {xs5 : List Value} {W W' : World} {v' : Value} {n' : Nat} {xs' : List Value} (h : QF W2 w5 B4 B5 u4 u5 v4 n4 xs4 v5 n5 xs5 W) (ho : W'.ownsRow w5.heap.size 23 1 v' n' xs') (hg : W.grownBy W' v4.ownBlock) (hat : v'.ownBlock = v4.ownBlock ∨ v'.ownBlock = some W.heap.size) :
    QF W2 w5 B4 B5 u4 u5 v' n' xs' v5 n5 xs5 W' := by
  have hc : Chg (fun b => v4.ownBlock = some b) W W' := (Chg.refl _ _).then_grown hg (fun b e => .inl e)
  refine ⟨h.bx4.chg hc (fun e => by have := own_base h.own4 _ e; have := h.l4; omega), h.bx5.chg hc (fun e => by have := own_base h.own4 _ e; have := h.l5; omega), ho, own_move h.own5 (fun b hb => hc.block b (own_lt h.own5 b hb) (fun e => h.dis b e hb)), fun b e e5 => ?_, h.chg.then_grown hg (fun b e => .inr (own_base h.own4 _ e)), h.keep.trans (keeps_own h.own4 hg), h.l4, h.l5⟩
  rcases hat with hat | hat
  · exact h.dis b (hat.symm.trans e) e5
  · have h1 := own_lt h.own5 b e5
    have h2 : some W.heap.size = some b := hat.symm.trans e
    injection h2 with h2
    omega
theorem QF.app5 {W2 w5 : World} {B4 B5 : Nat} {u4 u5 v4 : Value} {n4 : Nat} {xs4 : List Value} {v5 : Value} {n5 : Nat} {xs5 : List Value} {W W' : World} {v' : Value} {n' : Nat} {xs' : List Value} (h : QF W2 w5 B4 B5 u4 u5 v4 n4 xs4 v5 n5 xs5 W) (ho : W'.ownsRow w5.heap.size 3 1 v' n' xs') (hg : W.grownBy W' v5.ownBlock) (hat : v'.ownBlock = v5.ownBlock ∨ v'.ownBlock = some W.heap.size) :
    QF W2 w5 B4 B5 u4 u5 v4 n4 xs4 v' n' xs' W' := by
  have hc : Chg (fun b => v5.ownBlock = some b) W W' := (Chg.refl _ _).then_grown hg (fun b e => .inl e)
  refine ⟨h.bx4.chg hc (fun e => by have := own_base h.own5 _ e; have := h.l4; omega), h.bx5.chg hc (fun e => by have := own_base h.own5 _ e; have := h.l5; omega), own_move h.own4 (fun b hb => hc.block b (own_lt h.own4 b hb) (fun e => h.dis b hb e)), ho, fun b e e5 => ?_, h.chg.then_grown hg (fun b e => .inr (own_base h.own5 _ e)), h.keep.trans (keeps_own h.own5 hg), h.l4, h.l5⟩
  rcases hat with hat | hat
  · exact h.dis b e (hat.symm.trans e5)
  · have h1 := own_lt h.own4 b e
    have h2 : some W.heap.size = some b := hat.symm.trans e5
    injection h2 with h2
    omega
def QI (w5 : World) (B4 B5 : Nat) (idx : List Nat) (yrow : Nat → Value) (k : Nat) (W : World) : Prop :=
  ∃ v4 v5, QF W w5 B4 B5 v4 v5 v4 k ((idx.take k).map yrow) v5 k (nums .i64 ((idx.take k).map fun i => ((i : Nat) : Int))) W
theorem QI.own (w5 : World) (B4 B5 : Nat) (idx : List Nat) (yrow : Nat → Value) : OwnFrom w5.heap.size (QI w5 B4 B5 idx yrow) := by
  rintro k W W' row ⟨v4, v5, h⟩ hg hr
  exact ⟨v4, v5, h.bx4.kept hg (fun r e => (hr r e).2), h.bx5.kept hg (fun r e => (hr r e).2), own_nocell h.own4 hg (fun r e => (hr r e).2), own_nocell h.own5 hg (fun r e => (hr r e).2), h.dis, h.chg.then_grown hg (fun b e => .inr (hr b e).1), KeepsOthers.refl _, h.l4, h.l5⟩
theorem append_op {a : Act} {o : Oper} {s x : Operand} {t : TypeId} {W W' : World} {vs vx v' : Value} (hop : o.op = .call { callee := .builtin .append, args := #[s, x], argTypes := #[t, t] }) (hs : a.eval s = vs) (hx : a.eval x = vx) (hr : (Builtin.append_ #[t, t] o.type #[vs, vx]).run Try.prog W = .ok v' W') : (execOp a.eval o).run Try.prog W = .ok (.value v') W' := by
  unfold execOp
  simp only [hop, resolve, invoke, builtin, Sem.run_bind, Sem.run_pure, Result.andThen_ok, List.map_toArray, List.map_cons, List.map_nil, hs, hx, hr]
theorem cell_grown {W W' : World} {row : Option Nat} {b j : Nat} {v : Value} (h : W.cell? ⟨b, j, none⟩ = some v) (hg : W.grownBy W' row) (hne : row = some b → False) : W'.cell? ⟨b, j, none⟩ = some v :=
  (World.cell?_of_block (hg.block b (World.block_lt_of_cell? W _ h) (fun e => hne e.symm))).trans h
theorem append_runs {W : World} {base : Nat} {t ty e : TypeId} {z : Value} {bytes : Nat} (ht : Try.prog.underlying t = some (.slice e)) (hinfo : (Try.prog.info? e).map (fun i => (i.zero, i.size, i.bytes)) = some (some z, 1, bytes)) (hz : z.cells.size = 1) (hb : bytes ≤ 1000) {v : Value} {n : Nat} {xs : List Value} (ho : W.ownsRow base e 1 v n xs) {b : Nat} {y : Value} (hy : W.cell? ⟨b, 0, none⟩ = some y) (h1 : y.oneCell' = true) (hn : n ≤ 1000000) (hbase : base ≤ W.heap.size) :
    ∃ v' W', (Builtin.append_ #[t, t] ty #[v, .slice (some ⟨b, 0, none⟩) 1 1]).run Try.prog W = .ok v' W' ∧ W'.ownsRow base e 1 v' (n + 1) (xs ++ [y]) ∧ W.grownBy W' v.ownBlock ∧ (v'.ownBlock = v.ownBlock ∨ v'.ownBlock = some W.heap.size) := by
  obtain ⟨i0, hi, hzz⟩ := Option.map_eq_some_iff.1 hinfo
  simp only [Prod.mk.injEq] at hzz
  obtain ⟨hz0, hz1, hz2⟩ := hzz
  obtain ⟨v', W', r1, r2, r3, _, r5⟩ := run_append_own_at (P := Try.prog) (w := W) base t ty e i0 z 1 bytes ht hi hz0 hz1 hz2 hz (by decide) v n xs ho ⟨b, 0, none⟩ 1 1 [y] rfl (fun j u hj => by
    have hj1 := (List.getElem?_eq_some_iff.1 hj).1
    obtain rfl : j = 0 := by simpa using hj1
    simp only [List.getElem?_cons_zero, Option.some.injEq] at hj
    subst hj
    exact hy) (fun u hu => by rw [List.mem_singleton.1 hu]; exact h1) (by simp only [maxLen]; omega) (by
      have : (n + 1) * bytes ≤ (n + 1) * 1000 := Nat.mul_le_mul_left _ hb
      omega) hbase
  exact ⟨v', W', r1, r2, r3, r5⟩
def QuestPost (rows : List (List Int)) (owners who : List Int) (w : World) (e : Ending) (w' : World) : Prop :=
  ∃ A4 c4 A5 c5 A6 c6, e = .returned (.tuple #[.slice A4 (ownRows rows owners who).length c4, .slice A5 (ownIdx owners who rows.length).length c5, .slice A6 (targetP rows).length c6, .int .i64 0]) ∧
    Sl (Kd.slice 3 (Kd.int .i64)) w' A4 c4 (ownRows rows owners who) ∧ Kd.C (Kd.int .i64) w' A5 (ownIdx owners who rows.length).length ((ownIdx owners who rows.length).map fun i => ((i : Nat) : Int)) ∧ Sl (Kd.int .i64) w' A6 c6 (targetP rows) ∧ Below w.heap.size w w'
set_option maxRecDepth 100000 in
set_option maxHeartbeats 8000000 in
theorem question_c {A0 A1 A2 : Option Addr} {c0 c1 c2 : Nat} {rows : List (List Int)} {owners who : List Int} {w : World} (h0 : Sl (Kd.slice 3 (Kd.int .i64)) w A0 c0 rows) (h1 : Sl (Kd.int .i64) w A1 c1 owners) (h2 : Sl (Kd.int .i64) w A2 c2 who) (hc : checkP rows owners = 0) (hw : peopleOk (-1) who = true) :
    Calls Try.prog 116 #[.agg #[.slice A0 rows.length c0, .slice A1 owners.length c1], .slice A2 who.length c2] w (QuestPost rows owners who w) := by
  have hck := fun (W : World) (hb : Below w.heap.size w W) => program_Check.calls 66 A0 c0 rows A1 c1 owners 0 W (h0.below hb).rd h0.le (h1.below hb).rd h1.le ((check_math rows owners 66 (Nat.le_refl _)).trans (congrArg some hc))
  have HCK := Aside0.mk hck
  have H0 := Aside0.mk h0
  have H1 := Aside0.mk h1
  have H2 := Aside0.mk h2
  have HC := Aside0.mk hc
  have HW := Aside0.mk hw
  have hwn : who.length ≤ 64 := by have := people_few hw (Int.le_refl _) (by decide); omega
  clear hck h0 h1 h2 hc hw
  refine (callsIn_wide (n := 9)).1 ?_
  refine callsIn_of_wp_marks Try.func116 rfl trivial ?_ rfl
  simp only [Try.ntmps116, List.size_toArray, List.length_cons, List.length_nil, Nat.reduceAdd, Nat.reduceSub, Array.replicate_succ, Array.replicate_zero, List.push_toArray, List.append_toArray, List.nil_append, List.cons_append]
  gi_wp2
  obtain ⟨W1, hW1⟩ : ∃ W1, ((w.alloc (.cells #[.slice A0 rows.length c0, .slice A1 owners.length c1] 25)).alloc (.cells #[.slice none 0 0] 22)).alloc (.cells #[.slice none 0 0] 23) = W1 := ⟨_, rfl⟩
  rw [hW1]
  have hb1 : Below w.heap.size w W1 := by rw [← hW1]; exact ((below_alloc1 _ _).alloc (by rw [World.size_alloc]; omega) _).alloc (by rw [World.size_alloc, World.size_alloc]; omega) _
  have p0 : W1.cell? ⟨w.heap.size, 0, none⟩ = some (.slice A0 rows.length c0) ∧ w.heap.size < W1.heap.size := ⟨by rw [← hW1]; exact three_first _ _ _ _ _ _ _ rfl, by rw [← hW1]; simp; omega⟩
  have p1 : W1.cell? ⟨w.heap.size, 1, none⟩ = some (.slice A1 owners.length c1) ∧ w.heap.size < W1.heap.size := ⟨by
    rw [← hW1]
    have h1 : (w.alloc (.cells #[.slice A0 rows.length c0, .slice A1 owners.length c1] 25)).cell? ⟨w.heap.size, 1, none⟩ = some (.slice A1 owners.length c1) := by simp only [World.cell?]; rw [World.alloc_heap_new]; rfl
    have h2 : Below (w.alloc (.cells #[.slice A0 rows.length c0, .slice A1 owners.length c1] 25)).heap.size (w.alloc (.cells #[.slice A0 rows.length c0, .slice A1 owners.length c1] 25)) (((w.alloc (.cells #[.slice A0 rows.length c0, .slice A1 owners.length c1] 25)).alloc (.cells #[.slice none 0 0] 22)).alloc (.cells #[.slice none 0 0] 23)) := (below_alloc1 _ _).alloc (by simp) _
    exact (h2.cell (p := ⟨w.heap.size, 1, none⟩) (by simp)).trans h1, p0.2⟩
  have p4 : Bx W1 (w.heap.size + 1) (.slice none 0 0) := by
    rw [← hW1]
    have := (Bx.new (w.alloc (.cells #[.slice A0 rows.length c0, .slice A1 owners.length c1] 25)) (.slice none 0 0) 22).alloc (.cells #[.slice none 0 0] 23)
    simpa using this
  have p5 : Bx W1 (w.heap.size + 1 + 1) (.slice none 0 0) := by
    rw [← hW1]
    have := Bx.new ((w.alloc (.cells #[.slice A0 rows.length c0, .slice A1 owners.length c1] 25)).alloc (.cells #[.slice none 0 0] 22)) (.slice none 0 0) 23
    simpa using this
  have HB1 := Aside0.mk hb1
  have P0 := Aside0.mk p0
  have P1 := Aside0.mk p1
  have P4 := Aside0.mk p4
  have P5 := Aside0.mk p5
  clear hW1 hb1 p0 p1 p4 p5
  refine ⟨trivial, ?_⟩
  refine (callsIn_wide.2 (HCK.out _ HB1.out)).mono ?_
  rintro e w2 ⟨rfl, hb⟩
  have hb2 := hb
  replace P0 := Aside0.mk (cell_on P0.out hb2)
  replace P1 := Aside0.mk (cell_on P1.out hb2)
  replace P4 := Aside0.mk (P4.out.below hb2)
  replace P5 := Aside0.mk (P5.out.below hb2)
  replace HB1 := Aside0.mk (below_then HB1.out HB1.out.size hb2)
  clear hb hb2 HCK
  gi_wp2
  gi_loopg [8, 21] who.length (fun gk v8 v21 wr => ∃ (k : Nat) (last : Int), k ≤ who.length ∧ gk = who.length - k ∧ v21 = .int .i64 (k : Int) ∧ v8 = .int .i64 last ∧ Aside0 (peopleOk last (who.drop k) = true) ∧ Aside0 (Below w2.heap.size w2 wr))
  case atStart => exact ⟨0, -1, Nat.zero_le _, rfl, rfl, rfl, ⟨by rw [List.drop_zero]; exact HW.out⟩, ⟨Below.refl _ _⟩⟩
  case round =>
    obtain ⟨k, last, hk, rfl, rfl, rfl, HP, HBr⟩ := hrel
    by_cases hlt : k < who.length
    · have c1 : decide ((k : Int) < (who.length : Int)) = true := decide_eq_true (by omega)
      have c2 : decide (k < who.length) = true := decide_eq_true hlt
      have c3 : (0 : Int) ≤ (k : Int) := by omega
      have c4 : (k : Int) < (who.length : Int) := by omega
      obtain ⟨ad, ea, x1⟩ := Kd.at_int (H2.out.below (below_then HB1.out HB1.out.size HBr.out)).rd (k : Int) (by omega) (by omega)
      subst ea
      rw [rd_nat, Int.toNat_natCast] at x1
      have hst := people_step hlt HP.out
      generalize who.getD k 0 = n at x1 hst
      have hpn := fun (W : World) => program_isPerson.calls n true W (by rw [isPerson_math, decide_eq_true hst.1, decide_eq_true hst.2.1]; rfl)
      have c5 : decide (n ≤ last) = false := decide_eq_false (by omega)
      have HPN := Aside0.mk hpn
      have HST := Aside0.mk hst
      clear hpn hst HP
      gi_wp2_with (refine ⟨trivial, ?_⟩; gi_at_call 160; refine (callsIn_wide.2 (HPN.out _)).mono ?_; rintro e w' ⟨rfl, ⟨nd, rfl⟩⟩)
      gi_roundg (who.length - (k + 1))
      case measure => omega
      case rel => exact ⟨k + 1, n, by omega, rfl, by first | rfl | rw [wrap_succ (by omega)], rfl, ⟨HST.out.2.2.2⟩, ⟨pw_below_drewN HBr.out _⟩⟩
    · have dd1 : decide ((k : Int) < (who.length : Int)) = false := decide_eq_false (by omega)
      have Q0 := Aside0.mk (cell_on P0.out HBr.out)
      have Q1 := Aside0.mk (cell_on P1.out HBr.out)
      have Q4 := Aside0.mk (P4.out.below HBr.out)
      have Q5 := Aside0.mk (P5.out.below HBr.out)
      have HBW := Aside0.mk (below_then HB1.out HB1.out.size HBr.out)
      clear P0 P1 P4 P5 HB1 HBr HP
      have x0 := Q0.out.1
      obtain ⟨n, hnn⟩ : ∃ n, n = colsP rows := ⟨_, rfl⟩
      have HNN := Aside0.mk hnn
      have hn1 : 1 ≤ n := by rw [hnn]; exact cols_pos HC.out
      have hn2 : n ≤ 64 := by rw [hnn]; exact cols_le HC.out
      clear hnn
      gi_upto_if 38 with (fail)
      gi_cut [11] from 39 (fun v11 wc => v11 = .int .i64 (n : Int) ∧ wc = wr)
      case first =>
        by_cases hr0 : 0 < rows.length
        · have d1 : decide (0 < rows.length) = true := decide_eq_true hr0
          have d2 : (0 : Int) < (rows.length : Int) := by omega
          obtain ⟨ad, Ar, cr, ea, y1, _, _⟩ := at_L1 (H0.out.below HBW.out).rd ((0 : Nat) : Int) (by omega) (by omega)
          subst ea
          rw [rd_L1_nat, Int.toNat_natCast, Addr.add_zero', row_cols HC.out hr0, ← HNN.out] at y1
          gi_wp2
          gi_meet
          case rel => exact ⟨rfl, rfl⟩
        · have d1 : decide (0 < rows.length) = false := decide_eq_false hr0
          have hn : n = 1 := by rw [HNN.out, colsP, if_pos (by omega)]
          subst hn
          gi_wp2
          gi_meet
          case rel => exact ⟨rfl, rfl⟩
      case rest =>
        obtain ⟨rfl, rfl⟩ := hcut
        have hmk := print_make (P := Try.prog) 23 3 .i64 8 (by kernel_rfl) (by kernel_rfl) (by decide) n (by omega)
        have hn0 : 0 < n := by omega
        have hm0 : (madeCells #[Value.int .i64 0] n)[0]? = some (.int .i64 0) := by simp [madeCells, hn0]
        have x1 := Q1.out.1
        go_at_K
        gi_upto_region 17 with (fail)
        clear hmk hm0 x0 x1
        have hcells := mk_target n
        have htp : targetP rows = (List.replicate n 0).set 0 1 := by rw [HNN.out]; rfl
        rw [← htp] at hcells
        rw [hcells]
        obtain ⟨W4, hW4⟩ : ∃ W4, wc.alloc (.cells (nums .i64 (targetP rows)).toArray 3) = W4 := ⟨_, rfl⟩
        rw [hW4]
        have htl : (targetP rows).length = n := by rw [targetP_length, HNN.out]
        have ho4 : W4.ownsRow wc.heap.size 3 1 (.slice (some ⟨wc.heap.size, 0, none⟩) (targetP rows).length (targetP rows).length) (targetP rows).length (nums .i64 (targetP rows)) := by
          rw [← hW4]; exact own_lit wc wc.heap.size 3 .i64 (targetP rows) (Nat.le_refl _) (by omega)
        have hb4 : Below wc.heap.size wc W4 := by rw [← hW4]; exact below_alloc1 _ _
        have HT4 := Aside0.mk ho4
        have R0 := Aside0.mk (cell_on Q0.out hb4)
        have R1 := Aside0.mk (cell_on Q1.out hb4)
        have R4 := Aside0.mk (Q4.out.below hb4)
        have R5 := Aside0.mk (Q5.out.below hb4)
        have HB4 := Aside0.mk (below_then HBW.out HBW.out.size hb4)
        have HTL := Aside0.mk htl
        obtain ⟨gt, hgt⟩ : ∃ gt, gt = wc.heap.size := ⟨_, rfl⟩
        have hgt5 : w.heap.size + 1 + 1 < gt := by rw [hgt]; exact Q5.out.lt
        rw [← hgt] at HT4 ⊢
        have x0 := R0.out.1
        have x1 := R1.out.1
        clear hcells htp hW4 ho4 hb4 htl hgt Q0 Q1 Q4 Q5 HBW
        gi_wp2_with (refine ⟨trivial, ?_⟩; gi_at_call 181; refine (callsIn_wide.2 (own_c _ _ _ _ _ _ _ _ _ _)).mono ?_; rintro e w5 ⟨rfl, hw5⟩; have HW5 := Aside0.mk hw5; clear hw5)
        clear x0 x1
        have hb5 : Below W4.heap.size W4 w5 := by rw [HW5.out]; exact (below_alloc1 _ _).alloc (by rw [World.size_alloc]; omega) _
        have p0 : w5.cell? ⟨W4.heap.size, 0, none⟩ = some (.slice A0 rows.length c0) := by
          rw [HW5.out]
          have h1 : (W4.alloc (.cells #[.slice A0 rows.length c0, .slice A1 owners.length c1] 25)).cell? ⟨W4.heap.size, 0, none⟩ = some (.slice A0 rows.length c0) := by simp only [World.cell?]; rw [World.alloc_heap_new]; rfl
          exact ((below_alloc1 _ _).cell (p := ⟨W4.heap.size, 0, none⟩) (by simp)).trans h1
        have p1 : w5.cell? ⟨W4.heap.size, 1, none⟩ = some (.slice A1 owners.length c1) := by
          rw [HW5.out]
          have h1 : (W4.alloc (.cells #[.slice A0 rows.length c0, .slice A1 owners.length c1] 25)).cell? ⟨W4.heap.size, 1, none⟩ = some (.slice A1 owners.length c1) := by simp only [World.cell?]; rw [World.alloc_heap_new]; rfl
          exact ((below_alloc1 _ _).cell (p := ⟨W4.heap.size, 1, none⟩) (by simp)).trans h1
        have p2 : w5.cell? ⟨W4.heap.size + 1, 0, none⟩ = some (.slice A2 who.length c2) := by
          rw [HW5.out]
          have := (Bx.new (W4.alloc (.cells #[.slice A0 rows.length c0, .slice A1 owners.length c1] 25)) (.slice A2 who.length c2) 23).1
          rwa [World.size_alloc] at this
        have hs5 : w5.heap.size = W4.heap.size + 1 + 1 := by rw [HW5.out]; simp
        have hB5 := below_then HB4.out HB4.out.size hb5
        have q4 := R4.out.below hb5
        have q5 := R5.out.below hb5
        have hlt4 := R4.out.lt
        have hlt5 := R5.out.lt
        have hsw := HB4.out.size
        have HB5 := Aside0.mk hB5
        have HT5 := Aside0.mk (own_below HT4.out hb5)
        have HP := Aside0.mk (And.intro p0 (And.intro p1 p2))
        have HS5 := Aside0.mk hs5
        obtain ⟨yrow, hyrow⟩ : ∃ y : Nat → Value, ∀ i, y i = (w.cell? ((A0.getD ⟨0, 0, none⟩).add i)).getD undef := ⟨_, fun _ => rfl⟩
        have hq0 : QI w5 (w.heap.size + 1) (w.heap.size + 1 + 1) (ownIdx owners who rows.length) yrow 0 w5 :=
          ⟨_, _, q4, q5, World.ownsRow_nil _ _ _ _, World.ownsRow_nil _ _ _ _, fun b e => by simp [Value.ownBlock] at e, Chg.refl _ _, KeepsOthers.refl _, q4.lt, q5.lt⟩
        have HQ0 := Aside0.mk hq0
        have HSW := Aside0.mk hsw
        have hio := restIdx_own owners who rows.length
        have hadr : 0 < rows.length → A0 = some (A0.getD ⟨0, 0, none⟩) := fun h => by
          obtain ⟨ad, _, _, e, _⟩ := at_L1 H0.out.rd (0 : Int) (by omega) (by omega)
          rw [e]; rfl
        have hkeep : ∀ W, Chg (fun b => b = w.heap.size + 1 ∨ b = w.heap.size + 1 + 1) w5 W → W.cell? ⟨W4.heap.size, 0, none⟩ = some (.slice A0 rows.length c0) ∧ W.cell? ⟨W4.heap.size, 1, none⟩ = some (.slice A1 owners.length c1) ∧ W.cell? ⟨W4.heap.size + 1, 0, none⟩ = some (.slice A2 who.length c2) ∧ Kd.C (Kd.int .i64) W A2 who.length who ∧ Kd.C (Kd.int .i64) W A1 owners.length owners ∧
            ∀ i, i < rows.length → ∃ A c, yrow i = .slice A (rows.getD i []).length c ∧ W.cell? ((A0.getD ⟨0, 0, none⟩).add i) = some (yrow i) := fun W hC => by
          have hBW : Below w.heap.size w W := HB5.out.trans (hC.below HB5.out.size (fun b e => by omega))
          have hne : ∀ a : Addr, W4.heap.size ≤ a.block → a.block < w5.heap.size → W.cell? a = w5.cell? a := fun a h1 h2 => (hC.cell (a := a) h2 (fun e => by omega)).1
          refine ⟨(hne ⟨W4.heap.size, 0, none⟩ (Nat.le_refl _) (by simp only; omega)).trans HP.out.1, (hne ⟨W4.heap.size, 1, none⟩ (Nat.le_refl _) (by simp only; omega)).trans HP.out.2.1, (hne ⟨W4.heap.size + 1, 0, none⟩ (by simp only; omega) (by simp only; omega)).trans HP.out.2.2, (H2.out.below hBW).rd, (H1.out.below hBW).rd, fun i hi => ?_⟩
          obtain ⟨ad, Ar, cr, e, x1, _, _⟩ := at_L1 H0.out.rd (i : Int) (by omega) (by omega)
          rw [rd_L1_nat, Int.toNat_natCast] at x1
          rw [hyrow, show A0.getD ⟨0, 0, none⟩ = ad from by rw [e]; rfl, x1]
          exact ⟨Ar, cr, rfl, (hBW.cell (World.block_lt_of_cell? w _ x1)).trans x1⟩
        have HIT := Aside0.mk (own1_it (fun W => Chg (fun b => b = w.heap.size + 1 ∨ b = w.heap.size + 1 + 1) w5 W) W4.heap.size (W4.heap.size + 1) A2 c2 who A0 (A0.getD ⟨0, 0, none⟩) c0 rows A1 c1 owners yrow hkeep hadr (check_ok HC.out).own (people_le HW.out) (by omega) (by have := (check_ok HC.out).few; omega))
        have hyr2 : ∀ i, i < rows.length → ∃ A c, yrow i = .slice A (rows.getD i []).length c := fun i hi => by
          obtain ⟨A, c, e, _⟩ := (hkeep w5 (Chg.refl _ _)).2.2.2.2.2 i hi
          exact ⟨A, c, e⟩
        have HYROW := Aside0.mk hyrow
        obtain ⟨idx, hidx⟩ : ∃ idx, idx = ownIdx owners who rows.length := ⟨_, rfl⟩
        rw [← hidx] at HIT HQ0
        have hil : ∀ i ∈ idx, i < rows.length := fun i h => by rw [hidx] at h; exact ownIdx_lt h
        have hin : idx.length ≤ 64 := by rw [hidx]; have := ownIdx_le owners who rows.length; have := (check_ok HC.out).few; omega
        have HIDX := Aside0.mk hidx
        have HYR2 := Aside0.mk hyr2
        have HIL := Aside0.mk hil
        have hw5 : W4.heap.size + 1 + 1 = w5.heap.size := hs5.symm
        clear hb5 p0 p1 p2 hs5 hB5 q4 q5 hlt4 hlt5 hq0 hio hadr hkeep hyrow hyr2 hidx hil HP R0 R1 R4 R5 HB4 HT4 hw5
        refine range_all (by omega) rfl (enters_of Try.func203 (by kernel_rfl) rfl) (QI w5 (w.heap.size + 1) (w.heap.size + 1 + 1) idx yrow) 0 (fun k => k = idx.length) (fun k vs k' => k < idx.length ∧ vs = #[.int .i64 ((idx.getD k 0 : Nat) : Int), yrow (idx.getD k 0)] ∧ k' = k + 1) ?_ HQ0.out ?_ ?_ ?_ ?_
        · exact QI.own _ _ _ _ _
        · rintro k vs k' ⟨_, rfl, _⟩; rfl
        · intro l W2 J hs hJI hJ hY hj0
          refine (HIT.out l W2 J (fun k W h => (hJI k W h).choose_spec.choose_spec.chg) (fun k W W' h hb => hJ k k W W' h ((keeps_below hb).from _) (by
            obtain ⟨v4, v5, hq⟩ := hJI k W h
            exact ⟨v4, v5, (hq.below hb).bx4, (hq.below hb).bx5, (hq.below hb).own4, (hq.below hb).own5, hq.dis, (hq.below hb).chg, KeepsOthers.refl _, hq.l4, hq.l5⟩)) (fun k W v hv h => ?_) hj0).mono (fun e W' h => ⟨h.1, idx.length, rfl, by have := h.2; rwa [List.length_map] at this⟩)
          rw [List.getElem?_map] at hv
          obtain ⟨i, hi, rfl⟩ := Option.map_eq_some_iff.1 hv
          have hlt := (List.getElem?_eq_some_iff.1 hi).1
          have hi' : i = idx.getD k 0 := by rw [List.getD_eq_getElem?_getD, hi]; rfl
          rw [hi']
          exact hY k _ _ W ⟨hlt, rfl, rfl⟩ h
        · rintro l k vs k' W ⟨hk, rfl, rfl⟩ hI
          have HI := Aside0.mk hI
          clear hI
          obtain ⟨ix, hix⟩ : ∃ ix, ix = idx.getD k 0 := ⟨_, rfl⟩
          rw [← hix]
          have hixl : ix < rows.length := HIL.out ix (by rw [hix, List.getD_eq_getElem?_getD, List.getElem?_eq_getElem hk]; exact List.getElem_mem hk)
          obtain ⟨Ay, cy, hyv⟩ := HYR2.out ix hixl
          have hit : idx.take (k + 1) = idx.take k ++ [ix] := by rw [List.take_succ_eq_append_getElem hk, hix, List.getD_eq_getElem?_getD, List.getElem?_eq_getElem hk]; rfl
          have HIT2 := Aside0.mk hit
          obtain ⟨yv, hyv2⟩ : ∃ yv, yv = yrow ix := ⟨_, rfl⟩
          have hone : yv.oneCell' = true := by rw [hyv2, hyv]; rfl
          have HYV := Aside0.mk hyv2
          rw [← hyv2]
          rw [← hyv2] at hyv
          have HYS := Aside0.mk hyv
          clear hix hyv hit hyv2 hixl
          gi_wp2
          refine ⟨KeepsFrom.refl _ _, HI.out, ?_⟩
          clear HI
          rintro W2 ⟨v4, v5, hQ⟩
          have e4 := hQ.bx4.1
          have e5 := hQ.bx5.1
          have HQ := Aside0.mk hQ
          clear hQ
          gi_wp2
          refine startIn_ (n := 10) (S := fun w' => w'.cell? ⟨w.heap.size + 1, 0, none⟩ = some v4 ∧ w'.cell? ⟨w.heap.size + 1 + 1, 0, none⟩ = some v5) (ds := [7, 8, 9]) #[false, false, false, false, false, false, false, false, false, false] (by kernel_rfl) rfl rfl (by kernel_rfl) (fun h => by obtain ⟨_, _, h⟩ := h; exact h) ⟨e4, e5⟩ (fun hHeld => ?_)
          have hW2d : Below W2.heap.size W2 W2.drew := (Below.refl _ _).drew
          generalize W2.drew = W3 at hHeld hW2d ⊢
          have hQ3 := HQ.out.below hW2d
          clear e4 e5 hW2d HQ
          refine take_ (i := 0) (N := some 53) (v := ?_) (a' := ?_) #[true, false, false, false, false, false, false, false, false, false] rfl rfl (by kernel_rfl) (fun _ _ _ h => h) (Or.inl ⟨by rfl, ?_⟩) hHeld ?_ ?_
          rotate_left
          · rintro w' ⟨s0, s1⟩
            go_simp
            with_reducible rfl
          rotate_left
          · simp only [Act.put, List.setIfInBounds_toArray, List.set_cons_zero, List.set_cons_succ, i64_w, i32_w]
            rfl
          refine pure_ (i := 1) (N := some 54) (v := ?_) (a' := ?_) #[true, true, false, false, false, false, false, false, false, false] rfl rfl (by kernel_rfl) (fun _ _ _ h => h) (Or.inl ⟨by rfl, ?_⟩) ?_ ?_
          rotate_left
          · intro w'
            go_simp
            with_reducible rfl
          rotate_left
          · simp only [Act.put, List.setIfInBounds_toArray, List.set_cons_zero, List.set_cons_succ, i64_w, i32_w]
            rfl
          refine take_ (i := 4) (N := some 57) (v := ?_) (a' := ?_) #[true, true, false, false, true, false, false, false, false, false] rfl rfl (by kernel_rfl) (fun _ _ _ h => h) (Or.inl ⟨by rfl, ?_⟩) hHeld ?_ ?_
          rotate_left
          · rintro w' ⟨s0, s1⟩
            go_simp
            with_reducible rfl
          rotate_left
          · simp only [Act.put, List.setIfInBounds_toArray, List.set_cons_zero, List.set_cons_succ, i64_w, i32_w]
            rfl
          refine pure_ (i := 5) (N := some 58) (v := ?_) (a' := ?_) #[true, true, false, false, true, true, false, false, false, false] rfl rfl (by kernel_rfl) (fun _ _ _ h => h) (Or.inl ⟨by rfl, ?_⟩) ?_ ?_
          rotate_left
          · intro w'
            go_simp
            with_reducible rfl
          rotate_left
          · simp only [Act.put, List.setIfInBounds_toArray, List.set_cons_zero, List.set_cons_succ, i64_w, i32_w]
            rfl
          have hk64 : k ≤ 64 := by omega
          refine join_ (σ := Nat × Value × Nat) 3 #[true, true, true, true, true, true, true, false, false, false] (fun s => [(55, .slice (some ⟨s.1, 0, none⟩) 1 1), (56, s.2.1), (59, .slice (some ⟨s.2.2, 0, none⟩) 1 1)]) (fun s W => QF W2 w5 (w.heap.size + 1) (w.heap.size + 1 + 1) v4 v5 s.2.1 (k + 1) ((idx.take k).map yrow ++ [yv]) v5 k (nums .i64 ((idx.take k).map fun i => ((i : Nat) : Int))) W ∧ W.cell? ⟨s.2.2, 0, none⟩ = some (.int .i64 (ix : Int))) ?_ ?_
          · skip
            rintro ⟨b55, v4', b59⟩ W5 ⟨hQ5, c59⟩
            simp only at hQ5 c59
            obtain ⟨vA4, vc4, rfl⟩ := own_len hQ5.own4
            refine norm_ (by simp only [putAll, Act.put, List.setIfInBounds_toArray, List.set_cons_zero, List.set_cons_succ]; rfl) ?_
            obtain ⟨v5', W6, r1, r2, r3, r4⟩ := append_runs (t := 23) (ty := 23) (e := 3) (z := .int .i64 0) (bytes := 8) (by kernel_rfl) (by kernel_rfl) rfl (by decide) hQ5.own5 c59 rfl (by omega) hQ5.chg.size
            obtain ⟨vA5, vc5, rfl⟩ := own_len r2
            refine last_ (i := 7) (N := some 60) #[true, true, true, true, true, true, true, true, false, false] rfl rfl (by kernel_rfl) (by decide) (fun K hK => ?_)
            refine value_ (v := .slice vA5 (k + 1) vc5) (w1 := W6) (by rfl) rfl (append_op (by rfl) (by rfl) (by rfl) r1) ?_
            have hQ6 := hQ5.app5 r2 r3 r4
            refine hK.out _ _ ?_
            clear hK K
            refine norm_ (by simp only [putAll, Act.put, List.setIfInBounds_toArray, List.set_cons_zero, List.set_cons_succ]; rfl) ?_
            have z4 := hQ6.bx4.1
            have f4 := hQ6.bx4.2
            refine last_ (i := 8) (N := none) #[true, true, true, true, true, true, true, true, true, false] rfl rfl (by kernel_rfl) (by decide) (fun K hK => ?_)
            refine skip_ (w1 := W6.setCell ⟨w.heap.size + 1, 0, none⟩ (.slice vA4 (k + 1) vc4)) (by rfl) rfl (by simp [execOp, go_sem, z4, f4]) ?_
            refine hK.out _ _ ?_
            clear hK K
            have hx5 : Bx (W6.setCell ⟨w.heap.size + 1, 0, none⟩ (.slice vA4 (k + 1) vc4)) (w.heap.size + 1 + 1) v5 := hQ6.bx5.far (c := w.heap.size + 1) (by omega) _ _
            have z5 := hx5.1
            have f5 := hx5.2
            refine last_ (i := 9) (N := none) #[true, true, true, true, true, true, true, true, true, true] rfl rfl (by kernel_rfl) (by decide) (fun K hK => ?_)
            refine skip_ (w1 := (W6.setCell ⟨w.heap.size + 1, 0, none⟩ (.slice vA4 (k + 1) vc4)).setCell ⟨w.heap.size + 1 + 1, 0, none⟩ (.slice vA5 (k + 1) vc5)) (by rfl) rfl (by simp [execOp, go_sem, z5, f5]) ?_
            refine hK.out _ _ ?_
            clear hK K
            refine done_ (by kernel_rfl) ?_
            have hl4 := hQ6.l4
            have hl5 := hQ6.l5
            refine ⟨((hQ6.keep.trans (KeepsOthers.setCell _ _ _)).trans (KeepsOthers.setCell _ _ _)).from _, _, _, (hQ6.bx4.set _).far (c := w.heap.size + 1 + 1) (by omega) _ _, hx5.set _, ?_, ?_, hQ6.dis, (hQ6.chg.then_set (.inl (.inl rfl)) _).then_set (.inl (.inr rfl)) _, KeepsOthers.refl _, hl4, hl5⟩
            · rw [HIT2.out, List.map_append, List.map_cons, List.map_nil, ← HYV.out]; exact own_far (own_far hQ6.own4 hl4 _) hl5 _
            · rw [HIT2.out, List.map_append, List.map_cons, List.map_nil]; exact own_far (own_far (by have := hQ6.own5; simpa [nums] using this) hl4 _) hl5 _
          · skip
            intro hJ
            simp only [putAll, Act.put, List.setIfInBounds_toArray, List.set_cons_zero, List.set_cons_succ] at hJ
            refine two_ (i := 2) (j := 6) (Ni := some 55) (Nj := some 59) #[true, true, true, false, true, true, false, false, false, false] #[true, true, false, false, true, true, true, false, false, false] rfl rfl rfl rfl (by kernel_rfl) (by decide) (by decide) (fun K hK => ?_) (fun K hK => ?_)
            · skip
              refine value_ (v := .slice (some ⟨W3.heap.size, 0, none⟩) 1 1) (w1 := W3.alloc (.cells #[yv] 23)) (by rfl) rfl (by rw [HYS.out]; simp [execOp, go_sem]) ?_
              obtain ⟨Wa, hWa⟩ : ∃ W_, W_ = W3.alloc (.cells #[yv] 23) := ⟨_, rfl⟩
              rw [← hWa]
              have bWa : Below W3.heap.size W3 Wa := by rw [hWa]; exact below_alloc1 _ _
              have c55 : Wa.cell? ⟨W3.heap.size, 0, none⟩ = some (yv) := by rw [hWa]; exact (Bx.new _ _ _).1
              have hQa := hQ3.below bWa
              clear hWa
              refine hK.out _ _ ⟨hQa.bx4.1, hQa.bx5.1⟩ (fun _ => ?_)
              clear hK K
              refine norm_ (by simp only [putAll, Act.put, List.setIfInBounds_toArray, List.set_cons_zero, List.set_cons_succ]; rfl) ?_
              refine two_ (i := 3) (j := 6) (Ni := some 56) (Nj := some 59) #[true, true, true, true, true, true, false, false, false, false] #[true, true, true, false, true, true, true, false, false, false] rfl rfl rfl rfl (by kernel_rfl) (by decide) (by decide) (fun K hK => ?_) (fun K hK => ?_)
              · skip
                obtain ⟨v4', Wb, r1, r2, r3, r4⟩ := append_runs (t := 22) (ty := 22) (e := 23) (z := .slice none 0 0) (bytes := 24) (by kernel_rfl) (by kernel_rfl) rfl (by decide) hQa.own4 c55 hone (by omega) hQa.chg.size
                refine value_ (v := v4') (w1 := Wb) (by rfl) rfl (append_op (by rfl) (by rfl) (by rfl) r1) ?_
                have hQb := hQa.app4 r2 r3 r4
                refine hK.out _ _ ⟨hQb.bx4.1, hQb.bx5.1⟩ (fun _ => ?_)
                clear hK K
                refine norm_ (by simp only [putAll, Act.put, List.setIfInBounds_toArray, List.set_cons_zero, List.set_cons_succ]; rfl) ?_
                refine one_ (i := 6) (N := some 59) #[true, true, true, true, true, true, true, false, false, false] rfl rfl (by kernel_rfl) (by decide) (fun K hK => ?_)
                refine value_ (v := .slice (some ⟨Wb.heap.size, 0, none⟩) 1 1) (w1 := Wb.alloc (.cells #[.int .i64 (ix : Int)] 3)) (by rfl) rfl (by simp [execOp, go_sem]) ?_
                obtain ⟨Wc, hWc⟩ : ∃ W_, W_ = Wb.alloc (.cells #[.int .i64 (ix : Int)] 3) := ⟨_, rfl⟩
                rw [← hWc]
                have bWc : Below Wb.heap.size Wb Wc := by rw [hWc]; exact below_alloc1 _ _
                have c59 : Wc.cell? ⟨Wb.heap.size, 0, none⟩ = some (.int .i64 (ix : Int)) := by rw [hWc]; exact (Bx.new _ _ _).1
                have hQc := hQb.below bWc
                clear hWc
                refine hK.out _ _ ⟨hQc.bx4.1, hQc.bx5.1⟩ (fun _ => ?_)
                clear hK K
                refine norm_ (by simp only [putAll, Act.put, List.setIfInBounds_toArray, List.set_cons_zero, List.set_cons_succ]; rfl) ?_
                refine norm_ ?_ (hJ ⟨W3.heap.size, v4', Wb.heap.size⟩ Wc ⟨hQc, c59⟩)
                rfl
              · skip
                refine value_ (v := .slice (some ⟨Wa.heap.size, 0, none⟩) 1 1) (w1 := Wa.alloc (.cells #[.int .i64 (ix : Int)] 3)) (by rfl) rfl (by simp [execOp, go_sem]) ?_
                obtain ⟨Wb, hWb⟩ : ∃ W_, W_ = Wa.alloc (.cells #[.int .i64 (ix : Int)] 3) := ⟨_, rfl⟩
                rw [← hWb]
                have bWb : Below Wa.heap.size Wa Wb := by rw [hWb]; exact below_alloc1 _ _
                have c59 : Wb.cell? ⟨Wa.heap.size, 0, none⟩ = some (.int .i64 (ix : Int)) := by rw [hWb]; exact (Bx.new _ _ _).1
                have hQb := hQa.below bWb
                clear hWb
                have c55b := (bWb.cell (p := ⟨W3.heap.size, 0, none⟩) (World.block_lt_of_cell? Wa _ c55)).trans c55
                refine hK.out _ _ ⟨hQb.bx4.1, hQb.bx5.1⟩ (fun _ => ?_)
                clear hK K
                refine norm_ (by simp only [putAll, Act.put, List.setIfInBounds_toArray, List.set_cons_zero, List.set_cons_succ]; rfl) ?_
                refine one_ (i := 3) (N := some 56) #[true, true, true, true, true, true, true, false, false, false] rfl rfl (by kernel_rfl) (by decide) (fun K hK => ?_)
                obtain ⟨v4', Wc, r1, r2, r3, r4⟩ := append_runs (t := 22) (ty := 22) (e := 23) (z := .slice none 0 0) (bytes := 24) (by kernel_rfl) (by kernel_rfl) rfl (by decide) hQb.own4 c55b hone (by omega) hQb.chg.size
                refine value_ (v := v4') (w1 := Wc) (by rfl) rfl (append_op (by rfl) (by rfl) (by rfl) r1) ?_
                have hQc := hQb.app4 r2 r3 r4
                have c59c := cell_grown c59 r3 (fun e => by have := own_lt hQa.own4 _ e; omega)
                refine hK.out _ _ ⟨hQc.bx4.1, hQc.bx5.1⟩ (fun _ => ?_)
                clear hK K
                refine norm_ (by simp only [putAll, Act.put, List.setIfInBounds_toArray, List.set_cons_zero, List.set_cons_succ]; rfl) ?_
                refine norm_ ?_ (hJ ⟨W3.heap.size, v4', Wa.heap.size⟩ Wc ⟨hQc, c59c⟩)
                rfl
            · skip
              refine value_ (v := .slice (some ⟨W3.heap.size, 0, none⟩) 1 1) (w1 := W3.alloc (.cells #[.int .i64 (ix : Int)] 3)) (by rfl) rfl (by simp [execOp, go_sem]) ?_
              obtain ⟨Wa, hWa⟩ : ∃ W_, W_ = W3.alloc (.cells #[.int .i64 (ix : Int)] 3) := ⟨_, rfl⟩
              rw [← hWa]
              have bWa : Below W3.heap.size W3 Wa := by rw [hWa]; exact below_alloc1 _ _
              have c59 : Wa.cell? ⟨W3.heap.size, 0, none⟩ = some (.int .i64 (ix : Int)) := by rw [hWa]; exact (Bx.new _ _ _).1
              have hQa := hQ3.below bWa
              clear hWa
              refine hK.out _ _ ⟨hQa.bx4.1, hQa.bx5.1⟩ (fun _ => ?_)
              clear hK K
              refine norm_ (by simp only [putAll, Act.put, List.setIfInBounds_toArray, List.set_cons_zero, List.set_cons_succ]; rfl) ?_
              refine one_ (i := 2) (N := some 55) #[true, true, true, false, true, true, true, false, false, false] rfl rfl (by kernel_rfl) (by decide) (fun K hK => ?_)
              refine value_ (v := .slice (some ⟨Wa.heap.size, 0, none⟩) 1 1) (w1 := Wa.alloc (.cells #[yv] 23)) (by rfl) rfl (by rw [HYS.out]; simp [execOp, go_sem]) ?_
              obtain ⟨Wb, hWb⟩ : ∃ W_, W_ = Wa.alloc (.cells #[yv] 23) := ⟨_, rfl⟩
              rw [← hWb]
              have bWb : Below Wa.heap.size Wa Wb := by rw [hWb]; exact below_alloc1 _ _
              have c55 : Wb.cell? ⟨Wa.heap.size, 0, none⟩ = some (yv) := by rw [hWb]; exact (Bx.new _ _ _).1
              have hQb := hQa.below bWb
              clear hWb
              have c59b := (bWb.cell (p := ⟨W3.heap.size, 0, none⟩) (World.block_lt_of_cell? Wa _ c59)).trans c59
              refine hK.out _ _ ⟨hQb.bx4.1, hQb.bx5.1⟩ (fun _ => ?_)
              clear hK K
              refine norm_ (by simp only [putAll, Act.put, List.setIfInBounds_toArray, List.set_cons_zero, List.set_cons_succ]; rfl) ?_
              refine one_ (i := 3) (N := some 56) #[true, true, true, true, true, true, true, false, false, false] rfl rfl (by kernel_rfl) (by decide) (fun K hK => ?_)
              obtain ⟨v4', Wc, r1, r2, r3, r4⟩ := append_runs (t := 22) (ty := 22) (e := 23) (z := .slice none 0 0) (bytes := 24) (by kernel_rfl) (by kernel_rfl) rfl (by decide) hQb.own4 c55 hone (by omega) hQb.chg.size
              refine value_ (v := v4') (w1 := Wc) (by rfl) rfl (append_op (by rfl) (by rfl) (by rfl) r1) ?_
              have hQc := hQb.app4 r2 r3 r4
              have c59c := cell_grown c59b r3 (fun e => by have := own_lt hQ3.own4 _ e; omega)
              refine hK.out _ _ ⟨hQc.bx4.1, hQc.bx5.1⟩ (fun _ => ?_)
              clear hK K
              refine norm_ (by simp only [putAll, Act.put, List.setIfInBounds_toArray, List.set_cons_zero, List.set_cons_succ]; rfl) ?_
              refine norm_ ?_ (hJ ⟨Wa.heap.size, v4', W3.heap.size⟩ Wc ⟨hQc, c59c⟩)
              rfl
        · rintro D k W hD rfl ⟨v4, v5, hQ⟩ hK
          obtain ⟨vA4, vc4, rfl⟩ := own_len hQ.own4
          obtain ⟨vA5, vc5, rfl⟩ := own_len hQ.own5
          have e4 := hQ.bx4.1
          have e5 := hQ.bx5.1
          have f4 := hQ.bx4.2
          have f5 := hQ.bx5.2
          have hx4 := hQ.bx4.set (.slice vA4 idx.length vc4)
          have hx5 := hQ.bx5.far (c := w.heap.size + 1) (j := 0) (by omega) (.slice vA4 idx.length vc4)
          have k1 := hx4.1
          have k2 := hx5.1
          have k3 := (hx4.far (c := w.heap.size + 1 + 1) (j := 0) (by omega) (.slice vA5 idx.length vc5)).1
          have k4 := (hx5.set (.slice vA5 idx.length vc5)).1
          have HQ := Aside0.mk hQ
          have HK := Aside0.mk hK
          clear hQ hK hx4 hx5
          gi_wp2
          refine region_only (fun K' hK' => ?_)
          go_region_held3 (fun w' => w'.cell? ⟨w.heap.size + 1, 0, none⟩ = some (.slice vA4 idx.length vc4) ∧ w'.cell? ⟨w.heap.size + 1 + 1, 0, none⟩ = some (.slice vA5 idx.length vc5)) (go_keep) (fail)
          rename_i hHeld
          clear hHeld
          obtain ⟨W9, hW9⟩ : ∃ W9, ((W.setCell ⟨w.heap.size + 1, 0, none⟩ (.slice vA4 idx.length vc4)).setCell ⟨w.heap.size + 1 + 1, 0, none⟩ (.slice vA5 idx.length vc5)).drew = W9 := ⟨_, rfl⟩
          rw [hW9]
          have hl4 := HQ.out.l4
          have hl5 := HQ.out.l5
          have hb9 : Below ((W.setCell ⟨w.heap.size + 1, 0, none⟩ (.slice vA4 idx.length vc4)).setCell ⟨w.heap.size + 1 + 1, 0, none⟩ (.slice vA5 idx.length vc5)).heap.size ((W.setCell ⟨w.heap.size + 1, 0, none⟩ (.slice vA4 idx.length vc4)).setCell ⟨w.heap.size + 1 + 1, 0, none⟩ (.slice vA5 idx.length vc5)) W9 := by rw [← hW9]; exact (Below.refl _ _).drew
          have hC9 := ((HQ.out.chg.then_set (.inl (.inl rfl)) (.slice vA4 idx.length vc4) (j := 0)).then_set (.inl (.inr rfl)) (.slice vA5 idx.length vc5) (j := 0)).then_below hb9
          have o4 := own_below (own_far (own_far HQ.out.own4 (b := w.heap.size + 1) (j := 0) hl4 (.slice vA4 idx.length vc4)) (b := w.heap.size + 1 + 1) (j := 0) hl5 (.slice vA5 idx.length vc5)) hb9
          have o5 := own_below (own_far (own_far HQ.out.own5 (b := w.heap.size + 1) (j := 0) hl4 (.slice vA4 idx.length vc4)) (b := w.heap.size + 1 + 1) (j := 0) hl5 (.slice vA5 idx.length vc5)) hb9
          have x4 := ((HQ.out.bx4.set (.slice vA4 idx.length vc4)).far (c := w.heap.size + 1 + 1) (by omega) 0 (.slice vA5 idx.length vc5)).below hb9
          have x5 := ((HQ.out.bx5.far (c := w.heap.size + 1) (by omega) 0 (.slice vA4 idx.length vc4)).set (.slice vA5 idx.length vc5)).below hb9
          have hDl : D < W.heap.size := (Array.getElem?_eq_some_iff.1 HK.out).1
          have hK9 : W9.heap[D]? = some (.deferred (some [])) := by
            refine (hb9.block D (by rw [World.size_setCell, World.size_setCell]; exact hDl)).trans ?_
            exact (Below.heap_setCell _ ⟨w.heap.size + 1 + 1, 0, none⟩ _ D (fun e => by simp only at e; omega)).trans ((Below.heap_setCell W ⟨w.heap.size + 1, 0, none⟩ _ D (fun e => by simp only at e; omega)).trans HK.out)
          have hg := grownBy_putObj' W9 D (.deferred none)
          have hnc : ∀ r, some D = some r → ∃ o : Obj, W9.heap[r]? = some o ∧ o.isCells = false := fun r e => by cases e; exact ⟨_, hK9, rfl⟩
          have hC10 := hC9.then_grown hg (fun b e => .inr (by cases e; exact hD))
          have p4 := own_nocell o4 hg hnc
          have p5 := own_nocell o5 hg hnc
          have y4 := x4.kept hg hnc
          have y5 := x5.kept hg hnc
          have HK9 := Aside0.mk hK9
          have HY4 := Aside0.mk y4
          have HY5 := Aside0.mk y5
          have HP4 := Aside0.mk p4
          have HP5 := Aside0.mk p5
          have HC10 := Aside0.mk hC10
          clear hW9 hb9 hC9 o4 o5 x4 x5 hK9 hg hnc hC10 p4 p5 y4 y5 e4 e5 f4 f5 k1 k2 k3 k4 hDl
          show K' _ _
          refine hK' _ _ ?_
          clear hK'
          gi_wp2
          refine ⟨by simp, .inl ⟨_, _, rfl, run_takeDeferred HK9.out, ?_⟩⟩
          have z4 := HY4.out.1
          have z5 := HY5.out.1
          generalize W9.putObj D (.deferred none) = W10 at z4 z5 HP4 HP5 HC10 ⊢
          refine ⟨.tuple #[.slice vA4 idx.length vc4, .slice vA5 idx.length vc5, .slice (some ⟨gt, 0, none⟩) (targetP rows).length (targetP rows).length, .int .i64 0], by simp [results, Try.results116, go_sem, z4, z5, HTL.out], ?_⟩
          have hBW : Below w.heap.size w W10 := HB5.out.trans (HC10.out.below HB5.out.size (fun b e => by omega))
          have hlen4 : ((idx.take idx.length).map yrow).length = (ownRows rows owners who).length := by rw [List.take_length, List.length_map]; unfold ownRows; rw [List.length_map, HIDX.out]
          have hil : idx.length = (ownIdx owners who rows.length).length := by rw [HIDX.out]
          obtain ⟨A4, c4, q1, q2, q3⟩ := C_of_own (rows := ownRows rows owners who) (by have := HP4.out; rw [List.take_length] at this; rw [← List.length_map (f := yrow)] at this; exact this) (by rw [← hlen4, List.take_length]) (by unfold ownRows; rw [List.length_map, ← hil]; omega) (fun i hi => by
            have hi' : i < idx.length := by rw [← hlen4, List.take_length, List.length_map] at hi; exact hi
            have hir := HIL.out _ (List.getElem_mem hi')
            obtain ⟨ad, A, c, e, x1, x2, x3⟩ := at_L1 H0.out.rd (idx[i] : Int) (by omega) (by omega)
            rw [rd_L1_nat] at x1 x2 x3
            rw [Int.toNat_natCast] at x1
            have er : (ownRows rows owners who).getD i [] = rows.getD idx[i] [] := by
              unfold ownRows
              rw [← HIDX.out, List.getD_eq_getElem?_getD, List.getElem?_map, List.getElem?_eq_getElem hi']; rfl
            rw [er]
            refine ⟨A, c, ?_, x2, Kd.C_below x3 hBW⟩
            rw [List.getElem?_map, List.getElem?_eq_getElem hi', Option.map_some, HYROW.out, show A0.getD ⟨0, 0, none⟩ = ad from by rw [e]; rfl, x1]; rfl)
          obtain ⟨A5, c5, r1, r2, r3⟩ := Kd.R_reads (R_of_own (ok := fun _ => True) (xs := (idx.take idx.length).map fun i => ((i : Nat) : Int)) HP5.out (by rw [List.length_map, List.take_length]) (fun _ _ => trivial))
          obtain ⟨A6, c6, s1, s2, s3⟩ := Kd.R_reads (R_of_owns (ok := fun _ => True) (own_chg HT5.out HC10.out (fun b hb e => by have := HSW.out; omega)) (fun _ _ => trivial))
          rw [List.length_map] at q1
          rw [List.take_length, List.length_map] at r1 r3
          unfold QuestPost
          rw [← HIDX.out]
          exact ⟨A4, c4, A5, c5, A6, c6, by rw [q1, r1, s1], ⟨q2, q3⟩, r3, ⟨s2, s3⟩, hBW⟩
end Go.Proofs.Ytdbamhckgaoibaa.P
namespace Go.Proofs.Ytdbamhckgaoibaa.P
open Go.RowKit Go.Proofs.YtdbamhckgaoibaaW.PrintWords Go.Proofs.YtdbamhckgaoibaaW.PrintLast Go.Proofs.YtdbamhckgaoibaaW.PrintMore
set_option linter.unusedVariables false
set_option linter.unusedSimpArgs false
theorem sepAt_first {m : List (List Int)} {ps : List Nat} {target : List Int} {c : Nat} (hc : c < target.length) (h1 : ps.contains c = false) (h2 : Sig.sepP m ps target c ≠ 0) (h0 : ∀ d, d < c → ps.contains d = true ∨ Sig.sepP m ps target d = 0) : Sig.sepAt m ps target = some c := by
  unfold Sig.sepAt
  rw [List.find?_range_eq_some]
  refine ⟨by rw [h1]; simpa using h2, List.mem_range.2 hc, fun d hd => ?_⟩
  rcases h0 d hd with h | h
  · rw [h]; rfl
  · rw [h]; simp
theorem sepAt_never {m : List (List Int)} {ps : List Nat} {target : List Int} (h0 : ∀ d, d < target.length → ps.contains d = true ∨ Sig.sepP m ps target d = 0) : Sig.sepAt m ps target = none := by
  unfold Sig.sepAt
  rw [List.find?_eq_none]
  intro d hd
  rcases h0 d (List.mem_range.1 hd) with h | h
  · rw [h]; simp
  · rw [h]; simp
def layS (m : List (List Int)) (ps : List Nat) (n c k : Nat) : List Int := Sig.lay ps (fun k => -Sig.ent m k c % 1073741789) ((List.replicate n 0).set c 1) k
def accS (m : List (List Int)) (ps : List Nat) (target : List Int) (c k : Nat) : Int := Sig.dot target (layS m ps target.length c k) % 1073741789
theorem layS_length (m : List (List Int)) (ps : List Nat) (n c k : Nat) : (layS m ps n c k).length = n := by unfold layS; rw [Sig.lay_length, List.length_set, List.length_replicate]
theorem accS_zero {m : List (List Int)} {ps : List Nat} {target : List Int} {c : Nat} (hc : c < target.length) (hT : ∀ x ∈ target, Sig.InF x) : accS m ps target c 0 = target.getD c 0 := by
  unfold accS layS Sig.lay
  rw [Sig.dot_set _ _ _ _ (by rw [List.length_replicate]; exact hc) (by rw [List.length_replicate]; exact Nat.le_refl _), Sig.dot_zeros]
  have h0 : (List.replicate target.length (0 : Int)).getD c 0 = 0 := by rw [List.getD_eq_getElem?_getD, List.getElem?_replicate, if_pos hc]; rfl
  have := Sig.getD_inF hT c
  unfold Sig.InF at this
  rw [h0]; omega
theorem layS_pivot {m : List (List Int)} {ps : List Nat} {n c k : Nat} (hp : Sig.Places ps n) (hnc : ps.contains c = false) (hk : k < ps.length) : (layS m ps n c k).getD (ps.getD k 0) 0 = 0 := by
  unfold layS
  rw [Sig.lay_other k (fun j hj => by have := hp.1 j k hj hk; omega), Sig.unit_getD _ _ _ (Sig.not_pivot hnc hk)]
theorem accS_succ {m : List (List Int)} {ps : List Nat} {target : List Int} {c k : Nat} (hp : Sig.Places ps target.length) (hnc : ps.contains c = false) (hk : k < ps.length) : accS m ps target c (k + 1) = (accS m ps target c k + (-Sig.ent m k c % 1073741789) * target.getD (ps.getD k 0) 0 % 1073741789) % 1073741789 := by
  have e : layS m ps target.length c (k + 1) = (layS m ps target.length c k).set (ps.getD k 0) (-Sig.ent m k c % 1073741789) := rfl
  unfold accS
  rw [e, Sig.dot_set _ _ _ _ (by rw [layS_length]; exact hp.2 k hk) (by rw [layS_length]; exact Nat.le_refl _), layS_pivot hp hnc hk, Int.mul_comm (target.getD _ _)]
  generalize Sig.dot target (layS m ps target.length c k) = a
  rw [Int.sub_zero]
  generalize (-Sig.ent m k c % 1073741789) * target.getD (ps.getD k 0) 0 = b
  omega
theorem accS_all (m : List (List Int)) (ps : List Nat) (target : List Int) (c : Nat) : accS m ps target c ps.length = Sig.sepP m ps target c := by
  unfold accS layS Sig.sepP Sig.sepW
  rw [Sig.dot_comm]
theorem cast_contains (ps : List Nat) (c : Nat) : (ps.map fun (p : Nat) => (p : Int)).contains (c : Int) = ps.contains c := by
  rw [Bool.eq_iff_iff, List.contains_iff_mem, List.contains_iff_mem, List.mem_map]
  constructor
  · rintro ⟨a, h1, h2⟩
    rwa [show c = a by omega]
  · intro h; exact ⟨c, h, rfl⟩
def SepPost (rows : List (List Int)) (target : List Int) (w : World) (e : Ending) (w' : World) : Prop :=
  ∃ v, e = .returned (.tuple #[v, .bool (Sig.separate rows target).isSome, .int .i64 0]) ∧ Kd.R (Kd.int .i64) 3 w' w.heap.size (fun _ => True) v ((Sig.separate rows target).getD []) ∧ Below w.heap.size w w'
set_option maxRecDepth 100000 in
set_option maxHeartbeats 8000000 in
theorem separate_c (A0 : Option Addr) (c0 : Nat) (rows : List (List Int)) (A1 : Option Addr) (c1 : Nat) (target : List Int) (w : World) (hr0 : Kd.C (Kd.slice 3 (Kd.int .i64)) w A0 rows.length rows) (hc0 : rows.length ≤ c0) (hr1 : Kd.C (Kd.int .i64) w A1 target.length target) (hc1 : target.length ≤ c1)
    (hR : Sig.RectT rows target) (hl : rows.length ≤ 64) (h1 : 0 < target.length) (hx : target.length ≤ 64) :
    Calls Try.prog 63 #[.slice A0 rows.length c0, .slice A1 target.length c1] w (SepPost rows target w) := by
  have HE := Aside0.mk (fun (W : World) (hb : Below w.heap.size w W) => examine_c A0 c0 rows A1 c1 target W (Kd.C_below hr0 hb) (Kd.C_below hr1 hb) hc1 hR hl hx)
  have HCP := Aside0.mk (fun (W : World) (hb : Below w.heap.size w W) => copyOf_c A0 c0 rows W (Kd.C_below hr0 hb) (by omega) (fun row h => by have := (hR.1 row h).1; omega))
  obtain ⟨hinv, hrl⟩ := Sig.inv_reduce hR.1 target.length (Nat.le_refl _)
  have hrd := fun (W : World) (B g : Nat) (bs : List Nat) (q1 : Tab W B g bs rows) (q2 : bs.length = rows.length) (q4 : B ≤ W.heap.size) (q5 : g < W.heap.size) (q6 : ∀ j, j < rows.length → bs.getD j 0 < W.heap.size) => reduce_c W B g rows.length bs rows target.length target.length q1 q2 hR.1 (Nat.le_refl _) (by omega) (by omega) (Nat.le_refl _) q4 q5 q6
  unfold RedPost at hrd
  have hsep : Sig.separate rows target = (Sig.sepAt (Sig.reduce rows target.length).1 (Sig.reduce rows target.length).2 target).map fun c => Sig.times (Sig.sepW (Sig.reduce rows target.length).1 (Sig.reduce rows target.length).2 target.length c) (Sig.finv (Sig.sepP (Sig.reduce rows target.length).1 (Sig.reduce rows target.length).2 target c)) := rfl
  unfold SepPost
  generalize Sig.separate rows target = sp at hsep ⊢
  generalize hred : Sig.reduce rows target.length = st at *
  obtain ⟨m, ps⟩ := st
  simp only at hinv hrl hrd hsep ⊢
  obtain ⟨at1, eA1, _⟩ := Kd.at_int hr1 0 (Int.le_refl _) (by omega)
  cases eA1
  have HRD := Aside0.mk hrd
  have HINV := Aside0.mk hinv
  have HPL := Aside0.mk (Sig.inv_places hinv)
  have HRL := Aside0.mk hrl
  have HSEP := Aside0.mk hsep
  have HR1 := Aside0.mk hr1
  have HTF := Aside0.mk hR.2
  clear hr0 hR hrd hinv hred hrl hsep hr1
  obtain ⟨R, hRR⟩ : ∃ R : Ending → World → Prop, R = fun e w' => ∃ v, e = .returned (.tuple #[v, .bool sp.isSome, .int .i64 0]) ∧ Kd.R (Kd.int .i64) 3 w' w.heap.size (fun _ => True) v (sp.getD []) ∧ Below w.heap.size w w' := ⟨_, rfl⟩
  rw [← hRR]
  have HRR := Aside0.mk hRR
  clear hRR
  go_enter_defers Try.func63, Try.ntmps63
  go_wp2_with (first | (go_at_call 118; refine (HE.out _ (by exact (Below.refl _ _).alloc (Nat.le_refl _) _)).mono ?_; rintro e w1 ⟨rfl, hb1⟩; have HB1 := Aside0.mk (below_then ((Below.refl _ w).alloc (Nat.le_refl _) _) (by simp) hb1); have HX1 := Aside0.mk ((Bx.new w (.int .i64 0) 29).below hb1); clear hb1) | (go_at_call 119; refine (HCP.out _ HB1.out).mono ?_; rintro e w2 ⟨g, bs, rfl, hlb, hT, hg, hbl, hb2⟩; have HL2 := Aside0.mk hlb; have HT2 := Aside0.mk hT; have HG2 := Aside0.mk (And.intro hg hbl); have HB2 := Aside0.mk hb2; clear hlb hT hg hbl hb2))
  have hT := HT2.out
  have hge := hT.geg
  have hges := hT.ge
  refine (HRD.out w2 w1.heap.size g bs hT HL2.out HB2.out.size HG2.out.1 HG2.out.2).mono ?_
  rintro e w3 ⟨v3, bs', rfl, hlb', hT3, hO3, hC3⟩
  have hB3 : Below w1.heap.size w2 w3 := hC3.below HB2.out.size (fun k hk => by
    rcases hk with rfl | ⟨j, hj, rfl⟩
    · exact hge
    · exact hges j hj)
  have hB13 : Below w1.heap.size w1 w3 := HB2.out.trans hB3
  have hX3 : Bx w3 w.heap.size (.int .i64 0) := HX1.out.below hB13
  have hB : Below w.heap.size w w3 := HB1.out.trans (hB13.mono HB1.out.size)
  have hpl : (ps.map fun (p : Nat) => (p : Int)).length = ps.length := List.length_map _
  obtain ⟨pA, pc, e3, hpc, hpC⟩ := Kd.R_reads (R_of_own (ok := fun _ => True) hO3 hpl (fun _ _ => trivial))
  subst e3
  have hcn := fun (W : World) (hb : Below w3.heap.size w3 W) (x : Nat) => contains_c pA pc (ps.map fun (p : Nat) => (p : Int)) (x : Int) W (Kd.C_below hpC hb)
  simp only [cast_contains, hpl] at hcn
  have HCN := Aside0.mk hcn
  have HPC := Aside0.mk hpC
  have HT3 := Aside0.mk hT3
  have HX3 := Aside0.mk hX3
  have HB := Aside0.mk hB
  have HR3 := Aside0.mk (Kd.C_below HR1.out hB)
  rw [hpl]
  have hps : ps.length ≤ rows.length := by rw [← HRL.out]; exact HINV.out.few
  have hwl := hX3.lt
  clear hpl hcn hpC hT3 hO3 hX3 hB hT hge hges hC3 hB3 hB13 HE HCP HRD HT2 HL2 HG2 HB2 HB1 HX1 HR1 hpc hlb'
  go_wp2
  go_loopg [29] target.length (fun gk v29 wr => ∃ c : Nat, c ≤ target.length ∧ gk = target.length - c ∧ v29 = .int .i64 (c : Int) ∧ Aside0 (∀ d, d < c → ps.contains d = true ∨ Sig.sepP m ps target d = 0) ∧ Aside0 (Below w3.heap.size w3 wr))
  case atStart => exact ⟨0, Nat.zero_le _, rfl, rfl, ⟨fun d hd => absurd hd (by omega)⟩, ⟨Below.refl _ _⟩⟩
  case round =>
    obtain ⟨c, hc, rfl, rfl, HZ, HBr⟩ := hrel
    by_cases hlt : c < target.length
    · have d1 : decide ((c : Int) < (target.length : Int)) = true := decide_eq_true (by omega)
      have d2 : decide (c < target.length) = true := decide_eq_true hlt
      have d3 : (0 : Int) ≤ (c : Int) := by omega
      have d4 : (c : Int) < (target.length : Int) := by omega
      have hcc := HCN.out wr HBr.out c
      obtain ⟨pcn, hpcn⟩ : ∃ b, b = ps.contains c := ⟨_, rfl⟩
      rw [← hpcn] at hcc
      have HPN := Aside0.mk hpcn
      have HCC := Aside0.mk hcc
      clear hcc hpcn
      cases pcn with
      | true =>
        go_wp2_with fail
        refine HCC.out.mono ?_
        rintro e w' ⟨rfl, rfl⟩
        clear HCC
        go_wp2
        go_roundg (target.length - (c + 1))
        case measure => omega
        case rel => exact ⟨c + 1, by omega, rfl, by first | rfl | rw [wrap_succ (by omega)], ⟨fun d hd => by
          by_cases e : d = c
          · subst e; exact .inl HPN.out.symm
          · exact HZ.out d (by omega)⟩, HBr⟩
      | false =>
        go_wp2_with fail
        refine HCC.out.mono ?_
        rintro e w' ⟨rfl, rfl⟩
        clear HCC
        obtain ⟨at1', e1, x1⟩ := Kd.at_int (Kd.C_below HR3.out HBr.out) (c : Int) (by omega) (by omega)
        cases e1
        rw [rd_nat, Int.toNat_natCast] at x1
        obtain ⟨tc, htc⟩ : ∃ tc, tc = target.getD c 0 := ⟨_, rfl⟩
        rw [← htc] at x1
        have HTC := Aside0.mk htc
        clear htc
        have hmk := print_make (P := Try.prog) 23 3 .i64 8 (by kernel_rfl) (by kernel_rfl) (by decide) target.length (by omega)
        go_wp2_with fail
        go_region_held3 (fun w' => w'.cell? (at1.add c) = some (.int .i64 tc)) (go_keep) (fail)
        clear hmk
        rename_i hHeld
        clear hHeld x1
        obtain ⟨W4, hW4⟩ : ∃ W4, (wr.alloc (.cells (madeCells #[.int .i64 0] target.length) 3)).drew = W4 := ⟨_, rfl⟩
        rw [hW4]
        have hb4 : Below wr.heap.size wr W4 := by rw [← hW4]; exact (below_alloc1 _ _).drew
        have hown := own_below (own_made wr wr.heap.size 3 .i64 target.length (Nat.le_refl _) (by omega)) ((Below.refl _ _).drew)
        have hgl : wr.heap.size < W4.heap.size := by rw [← hW4]; simp
        rw [hW4] at hown
        have HB4 := Aside0.mk (below_then HBr.out HBr.out.size hb4)
        have HY4 := Aside0.mk hown
        have hg3 := HBr.out.size
        obtain ⟨gw, hgw⟩ : ∃ gw, gw = wr.heap.size := ⟨_, rfl⟩
        rw [← hgw] at HY4 hgl hg3 ⊢
        clear hW4 hb4 hown hgw
        obtain ⟨s1, s2⟩ := own_at HY4.out (c : Int) (by omega) (by omega)
        obtain ⟨s3, _⟩ := own_store HY4.out (c : Int) 1
        rw [Int.toNat_natCast] at s1 s2 s3
        have HS3 := Aside0.mk s3
        clear s3 HY4
        go_wp2
        clear s1 s2
        go_loopg [11, 47] ps.length (fun gk v11 v47 w' => ∃ k : Nat, k ≤ ps.length ∧ gk = ps.length - k ∧ v47 = .int .i64 (k : Int) ∧ v11 = .int .i64 (accS m ps target c k) ∧ w'.ownsRow gw 3 1 (.slice (some ⟨gw, 0, none⟩) target.length target.length) target.length (nums .i64 (layS m ps target.length c k)) ∧ Chg (fun b => b = gw) W4 w')
        case atStart => exact ⟨0, Nat.zero_le _, rfl, rfl, by rw [accS_zero hlt HTF.out, ← HTC.out], HS3.out, Chg.then_set (S := fun b => b = gw) (Chg.refl _ _) (.inl rfl) _⟩
        case round =>
          clear HS3
          obtain ⟨k, hk, rfl, rfl, rfl, hY, hC⟩ := hrel
          have hBw : Below w3.heap.size w3 wr := HB4.out.trans (hC.below HB4.out.size (fun b e => by omega))
          have HBW := Aside0.mk hBw
          have HC := Aside0.mk hC
          have HY := Aside0.mk hY
          clear hBw hC hY
          by_cases hkp : k < ps.length
          · have e1 : rd (ps.map fun (p : Nat) => (p : Int)) (k : Int) = ((ps.getD k 0 : Nat) : Int) := by
              rw [rd_nat, List.getD_eq_getElem?_getD, List.getElem?_map, List.getD_eq_getElem?_getD, List.getElem?_eq_getElem hkp]; rfl
            obtain ⟨ap, ep, p1⟩ := Kd.at_int (Kd.C_below HPC.out HBW.out) (k : Int) (by omega) (by rw [List.length_map]; omega)
            subst ep
            rw [e1, Int.toNat_natCast] at p1
            have hpn := HPL.out.2 k hkp
            have hkm : k < m.length := by have := HINV.out.few; omega
            have hlen := (HINV.out.rect _ (Sig.getD_mem hkm)).1
            have hT := HT3.out.below HBW.out
            obtain ⟨⟨ck, m1, m2⟩, m3⟩ := hT.main k hkm
            obtain ⟨q1, q2⟩ := hT.rows k hkm c (by omega)
            have q0 : (m.getD k []).getD c 0 = Sig.ent m k c := rfl
            rw [q0] at q1
            rw [hlen] at m2
            obtain ⟨at2, ey, y1⟩ := Kd.at_int (Kd.C_below HR3.out HBW.out) ((ps.getD k 0 : Nat) : Int) (by omega) (by omega)
            cases ey
            rw [rd_nat, Int.toNat_natCast] at y1
            have hstep : layS m ps target.length c (k + 1) = (layS m ps target.length c k).set (ps.getD k 0) (-Sig.ent m k c % 1073741789) := rfl
            have hacc := accS_succ (m := m) HPL.out HPN.out.symm hkp
            obtain ⟨s1, s2⟩ := own_at HY.out ((ps.getD k 0 : Nat) : Int) (by omega) (by omega)
            rw [Int.toNat_natCast] at s1 s2
            have hent := Sig.ent_inF HINV.out.rect k c
            have hgb : bs'.getD k 0 < w3.heap.size := World.block_lt_of_cell? w3 _ (HT3.out.rows k hkm c (by omega)).1
            unfold Sig.InF at hent
            have f1 : decide ((k : Int) < (ps.length : Int)) = true := decide_eq_true (by omega)
            have f2 : (0 : Int) ≤ (k : Int) := by omega
            have f3 : (k : Int) < (ps.length : Int) := by omega
            have f4 : decide (k < ps.length) = true := decide_eq_true hkp
            have f5 : (k : Int) < (rows.length : Int) := by have := HRL.out; omega
            have f6 : decide (k < rows.length) = true := decide_eq_true (by have := HRL.out; omega)
            obtain ⟨pk, hpk⟩ : ∃ pk, pk = ps.getD k 0 := ⟨_, rfl⟩
            obtain ⟨bi, hbi⟩ : ∃ bi, bi = bs'.getD k 0 := ⟨_, rfl⟩
            obtain ⟨x, hx⟩ : ∃ x, x = Sig.ent m k c := ⟨_, rfl⟩
            obtain ⟨tp, htp⟩ : ∃ tp, tp = target.getD pk 0 := ⟨_, rfl⟩
            rw [← hpk] at p1 s1 s2 y1 hpn hacc hstep
            rw [← htp] at y1 hacc
            rw [← hbi] at m2 q1 hgb
            rw [← hx] at q1 hent hacc hstep
            have g1 : (0 : Int) ≤ (pk : Int) := by omega
            have g2 : (pk : Int) < (target.length : Int) := by omega
            have g3 : decide (pk < target.length) = true := decide_eq_true hpn
            have HST := Aside0.mk hstep
            have HAC := Aside0.mk hacc
            have HTP := Aside0.mk htp
            clear htp
            have x0 := hent.1
            have x1 := hent.2
            clear hpk hbi hx hacc hstep q0 hT m1 m3 q2 e1 hlen hent
            go_upto_region 15 with (go_at_call 122; refine (field_Mod_m.calls _ _ _ rfl).mono ?_; rintro e w6 ⟨rfl, hd6⟩; obtain ⟨nd, rfl⟩ := hd6)
            have hY6 := own_below HY.out (pw_below_drewN (Below.refl _ wr) nd)
            obtain ⟨s3, _⟩ := own_store hY6 (pk : Int) (-x % 1073741789)
            rw [Int.toNat_natCast] at s3
            have hC6 := (HC.out.then_below (pw_below_drewN (Below.refl _ wr) nd)).then_set (.inl rfl) (j := pk) (.int .i64 (-x % 1073741789)) (b := gw)
            obtain ⟨W6, hW6⟩ : ∃ W6, (wr.drewN nd).setCell ⟨gw, pk, none⟩ (.int .i64 (-x % 1073741789)) = W6 := ⟨_, rfl⟩
            rw [hW6] at s3 hC6 ⊢
            have hB6 : Below w3.heap.size w3 W6 := HB4.out.trans (hC6.below HB4.out.size (fun b e => by omega))
            obtain ⟨s4, _⟩ := own_at s3 (pk : Int) (by omega) (by omega)
            rw [rd_nat, Int.toNat_natCast, Sig.getD_set_int, if_pos ⟨rfl, by rw [layS_length]; exact hpn⟩] at s4
            obtain ⟨at3, ey, y3⟩ := Kd.at_int (Kd.C_below HR3.out hB6) (pk : Int) (by omega) (by omega)
            cases ey
            rw [rd_nat, Int.toNat_natCast, ← HTP.out] at y3
            have hsl : gw < W6.heap.size := World.block_lt_of_cell? W6 _ s4
            have hyl : (at1.add pk).block < W6.heap.size := World.block_lt_of_cell? W6 _ y3
            rw [← HST.out] at s3
            have HS3 := Aside0.mk s3
            have HC6 := Aside0.mk hC6
            clear s1 s2 p1 m2 q1 y1 hY6 s3 hC6 hW6 hB6 HY HC HBW f1 f2 f3 f4 f5 f6 x0 x1
            go_region_held3 (fun w' => w'.cell? ⟨gw, pk, none⟩ = some (.int .i64 (-x % 1073741789)) ∧ w'.cell? (at1.add pk) = some (.int .i64 tp)) (go_keep)
              (first
                | (go_at_call 65; refine (field_Mul_m.calls _ _ _ _ rfl).mono ?_; rintro e w7 ⟨rfl, hd7⟩; obtain ⟨nd7, rfl⟩ := hd7)
                | (go_at_call 36; refine (field_Add_m.calls _ _ _ _ rfl).mono ?_; rintro e w8 ⟨rfl, hb8⟩; have z0 := (hb8.cell (p := ⟨gw, pk, none⟩) (by simpa using hsl)).trans (show _ = some (.int .i64 (-x % 1073741789)) by simp [s4]); have z1 := (hb8.cell (p := at1.add pk) (by simpa using hyl)).trans (show _ = some (.int .i64 tp) by simp [y3]); have HB8 := Aside0.mk hb8; clear hb8))
            rename_i hHeld
            have HB68 : Aside0 (Below W6.heap.size W6 w8) := ⟨by first | exact below_then (pw_below_drewN (Below.refl _ W6) (1 + nd7)) (by simp) HB8.out | exact below_then (pw_below_drewN ((Below.refl _ W6).drew) nd7) (by simp) HB8.out⟩
            clear hHeld z0 z1 s4 y3
            go_wp2
            go_roundg (ps.length - (k + 1))
            case measure => omega
            case rel => exact ⟨k + 1, by omega, rfl, by first | rfl | rw [wrap_succ (by omega)], by rw [HAC.out]; generalize (-x % 1073741789) * tp = b; rw [show (accS m ps target c k + b % 1073741789) % 1073741789 = (accS m ps target c k + b) % 1073741789 by omega], own_below HS3.out HB68.out, HC6.out.then_below HB68.out⟩
          · obtain rfl : k = ps.length := by omega
            have f1 : decide ((ps.length : Int) < (ps.length : Int)) = false := decide_eq_false (by omega)
            rw [accS_all]
            have hrange := Sig.emod_range (Sig.dot (Sig.sepW m ps target.length c) target)
            have hP0 : Sig.sepP m ps target c = Sig.dot (Sig.sepW m ps target.length c) target % 1073741789 := rfl
            rw [← hP0] at hrange
            obtain ⟨pv, hpv⟩ : ∃ pv, pv = Sig.sepP m ps target c := ⟨_, rfl⟩
            rw [← hpv] at hrange ⊢
            have HPV := Aside0.mk hpv
            clear hpv hP0
            by_cases hz : pv = 0
            · have hI := fun (W : World) => field_Inverse.calls pv 0 90 W (by unfold field_Inverse.f; rw [if_pos (by omega)])
              have HI := Aside0.mk hI
              have HZ0 := Aside0.mk hz
              clear hI hz hrange HY HC
              go_wp2_with (go_at_call 123; refine (HI.out _).mono ?_; rintro e w7 ⟨rfl, hd7⟩; obtain ⟨nd7, rfl⟩ := hd7)
              go_roundg (target.length - (c + 1))
              case measure => omega
              case rel => exact ⟨c + 1, by omega, rfl, by first | rfl | rw [wrap_succ (by omega)], ⟨fun d hd => by
                by_cases e : d = c
                · subst e; exact .inr (HPV.out.symm.trans HZ0.out)
                · exact HZ.out d (by omega)⟩, ⟨pw_below_drewN HBW.out _⟩⟩
            · have hI := fun (W : World) => field_Inverse.calls pv (Sig.finv pv) 0 W (by unfold field_Inverse.f; rw [if_neg (by omega)])
              have HI := Aside0.mk hI
              have HNZ := Aside0.mk hz
              obtain ⟨iv, hiv⟩ : ∃ iv, iv = Sig.finv pv := ⟨_, rfl⟩
              rw [← hiv] at HI
              have HIV := Aside0.mk hiv
              have hsw : layS m ps target.length c ps.length = Sig.sepW m ps target.length c := rfl
              have hswl := Sig.sepW_length m ps target.length c
              have hy := HY.out
              rw [hsw] at hy
              obtain ⟨sw, hswe⟩ : ∃ sw, sw = Sig.sepW m ps target.length c := ⟨_, rfl⟩
              rw [← hswe] at hy hswl
              have HSW := Aside0.mk hswe
              have HY1 := Aside0.mk hy
              have HWL := Aside0.mk hswl
              clear hI hz hiv hsw hswl hy hswe HY hrange
              go_wp2_with (go_at_call 123; refine (HI.out _).mono ?_; rintro e w7 ⟨rfl, hd7⟩; obtain ⟨nd7, rfl⟩ := hd7)
              obtain ⟨W7, hW7⟩ : ∃ W7, W7 = wr.drewN nd7 := ⟨_, rfl⟩
              rw [← hW7]
              have hb7 : Below wr.heap.size wr W7 := by rw [hW7]; exact pw_below_drewN (Below.refl _ _) _
              have HY7 := Aside0.mk (own_below HY1.out hb7)
              have HC7 := Aside0.mk (HC.out.then_below hb7)
              clear hW7 hb7 HY1 HC HBW
              go_loopg [85] target.length (fun gk v85 w' => ∃ j : Nat, j ≤ target.length ∧ gk = target.length - j ∧ v85 = .int .i64 (j : Int) ∧ Aside0 (w'.ownsRow gw 3 1 (.slice (some ⟨gw, 0, none⟩) target.length target.length) target.length (nums .i64 (mixRow sw (Sig.times sw iv) j))) ∧ Aside0 (Chg (fun b => b = gw) W4 w'))
              case atStart => exact ⟨0, Nat.zero_le _, rfl, rfl, ⟨by rw [show mixRow sw (Sig.times sw iv) 0 = sw from by simp [mixRow]]; exact HY7.out⟩, HC7⟩
              case round =>
                clear HY7 HC7
                obtain ⟨j, hj, rfl, rfl, HY, HC⟩ := hrel
                have htl : sw.length = (Sig.times sw iv).length := (Sig.times_length sw iv).symm
                by_cases hjn : j < target.length
                · have a1 : decide ((j : Int) < (target.length : Int)) = true := decide_eq_true (by omega)
                  have a2 : decide (j < target.length) = true := decide_eq_true hjn
                  have a3 : (0 : Int) ≤ (j : Int) := by omega
                  have a4 : (j : Int) < (target.length : Int) := by omega
                  have hjs : j < sw.length := by rw [HWL.out]; exact hjn
                  obtain ⟨s1, s2⟩ := own_at HY.out (j : Int) (by omega) (by omega)
                  rw [rd_nat, Int.toNat_natCast, mixRow_at htl hjs, if_neg (by omega)] at s1
                  rw [Int.toNat_natCast] at s2
                  have hms := mixRow_set htl hjs
                  rw [Sig.times_getD] at hms
                  obtain ⟨x, hx⟩ : ∃ x, x = sw.getD j 0 := ⟨_, rfl⟩
                  rw [← hx] at s1 hms
                  have HMS := Aside0.mk hms
                  clear hx hms htl hjs
                  go_wp2_with (go_at_call 65; refine (field_Mul_m.calls _ _ _ _ rfl).mono ?_; rintro e w8 ⟨rfl, hd8⟩; obtain ⟨nd8, rfl⟩ := hd8)
                  have hy8 := own_below HY.out (pw_below_drewN (Below.refl _ wr) nd8)
                  obtain ⟨s3, _⟩ := own_store hy8 (j : Int) (x * iv % 1073741789)
                  rw [Int.toNat_natCast, HMS.out] at s3
                  have HS3 := Aside0.mk s3
                  have HC8 := Aside0.mk ((HC.out.then_below (pw_below_drewN (Below.refl _ wr) nd8)).then_set (.inl rfl) (j := j) (.int .i64 (x * iv % 1073741789)) (b := gw))
                  clear s1 s2 s3 hy8 HY HC
                  go_roundg (target.length - (j + 1))
                  case measure => omega
                  case rel => exact ⟨j + 1, by omega, rfl, by first | rfl | rw [wrap_succ (by omega)], HS3, HC8⟩
                · obtain rfl : j = target.length := by omega
                  have a1 : decide ((target.length : Int) < (target.length : Int)) = false := decide_eq_false (by omega)
                  have hy := HY.out
                  rw [← HWL.out, mixRow_all htl, HWL.out] at hy
                  have hBw : Below w3.heap.size w3 wr := HB4.out.trans (HC.out.below HB4.out.size (fun b e => by omega))
                  have hX := HX3.out.below hBw
                  have hxc := hX.1
                  have hxf := hX.2
                  have hcell : (wr.setCell ⟨w.heap.size, 0, none⟩ (.int .i64 0)).cell? ⟨w.heap.size, 0, none⟩ = some (.int .i64 0) := (hX.set _).1
                  have hfirst := sepAt_first hlt HPN.out.symm (by rw [← HPV.out]; exact HNZ.out) HZ.out
                  have hspe : sp = some (Sig.times sw iv) := by rw [HSEP.out, hfirst, HSW.out, HIV.out, HPV.out]; rfl
                  have hfin : R (.returned (.tuple #[.slice (some ⟨gw, 0, none⟩) target.length target.length, .bool true, .int .i64 0])) (wr.setCell ⟨w.heap.size, 0, none⟩ (.int .i64 0)) := by
                    rw [HRR.out, hspe]
                    refine ⟨.slice (some ⟨gw, 0, none⟩) target.length target.length, rfl, ?_, ?_⟩
                    · exact R_of_own (own_mono (own_far hy (b := w.heap.size) (j := 0) (by omega) (.int .i64 0)) (by omega)) (by rw [Option.getD_some, Sig.times_length]; exact HWL.out) (fun _ _ => trivial)
                    · exact (HB.out.trans (hBw.mono HB.out.size)).setCell (Nat.le_refl _) _
                  have HFIN := Aside0.mk hfin
                  clear hy hBw hX hfirst hspe hfin htl
                  go_wp2
                  refine leaves_cons (f := 117) (args := #[.pointer (some ⟨w.heap.size, 0, none⟩)]) (by simp) (by simp [go_sem]) ?_
                  refine (caught_idle ⟨w.heap.size, 0, none⟩ _).mono ?_
                  rintro e u' w'' ⟨rfl, rfl, rfl⟩
                  simp [Leaves, settle, results, Try.results63, go_sem, hcell]
                  exact HFIN.out
    · obtain rfl : c = target.length := by omega
      have d1 : decide ((target.length : Int) < (target.length : Int)) = false := decide_eq_false (by omega)
      have hX := HX3.out.below HBr.out
      have hxc := hX.1
      have hxf := hX.2
      have hcell : (wr.setCell ⟨w.heap.size, 0, none⟩ (.int .i64 0)).cell? ⟨w.heap.size, 0, none⟩ = some (.int .i64 0) := (hX.set _).1
      have hspe : sp = none := by rw [HSEP.out, sepAt_never HZ.out]; rfl
      have hfin : R (.returned (.tuple #[.slice none 0 0, .bool false, .int .i64 0])) (wr.setCell ⟨w.heap.size, 0, none⟩ (.int .i64 0)) := by
        rw [HRR.out, hspe]
        exact ⟨.slice none 0 0, rfl, Kd.R_nil _ _ _ _ _, (HB.out.trans (HBr.out.mono HB.out.size)).setCell (Nat.le_refl _) _⟩
      have HFIN := Aside0.mk hfin
      clear hX hspe hfin
      go_wp2
      refine leaves_cons (f := 117) (args := #[.pointer (some ⟨w.heap.size, 0, none⟩)]) (by simp) (by simp [go_sem]) ?_
      refine (caught_idle ⟨w.heap.size, 0, none⟩ _).mono ?_
      rintro e u' w'' ⟨rfl, rfl, rfl⟩
      simp [Leaves, settle, results, Try.results63, go_sem, hcell]
      exact HFIN.out
end Go.Proofs.Ytdbamhckgaoibaa.P
namespace Go.Proofs.Ytdbamhckgaoibaa.P
open Go.RowKit Go.Proofs.YtdbamhckgaoibaaW.PrintWords Go.Proofs.YtdbamhckgaoibaaW.PrintLast Go.Proofs.YtdbamhckgaoibaaW.PrintMore
set_option linter.unusedVariables false
set_option linter.unusedSimpArgs false
theorem box_prog (w : World) (v0 v1 : Value) (t : TypeId) : (w.alloc (.cells #[v0, v1] t)).cell? ⟨w.heap.size, 0, none⟩ = some v0 ∧ (w.alloc (.cells #[v0, v1] t)).cell? ⟨w.heap.size, 1, none⟩ = some v1 ∧ w.heap.size < (w.alloc (.cells #[v0, v1] t)).heap.size :=
  ⟨by simp only [World.cell?]; rw [World.alloc_heap_new]; rfl, by simp only [World.cell?]; rw [World.alloc_heap_new]; rfl, by simp⟩
set_option maxRecDepth 100000 in
set_option maxHeartbeats 4000000 in
theorem refuses_w {A0 A1 A2 : Option Addr} {c0 c1 c2 : Nat} {rows : List (List Int)} {owners who : List Int} {w : World} (h0 : Sl (Kd.slice 3 (Kd.int .i64)) w A0 c0 rows) (h1 : Sl (Kd.int .i64) w A1 c1 owners) (h2 : Sl (Kd.int .i64) w A2 c2 who) (hc : checkP rows owners = 0) (hw : peopleOk (-1) who = true) :
    Calls Try.prog 49 #[.agg #[.slice A0 rows.length c0, .slice A1 owners.length c1], .slice A2 who.length c2] w fun e w' => ∃ v0_ : Value, e = .returned (.tuple #[v0_, .bool (refuQ rows owners who).2.1, .int .i64 (refuQ rows owners who).2.2]) ∧ Kd.R (Kd.int .i64) 3 w' w.heap.size (fun _ => True) v0_ (refuQ rows owners who).1 ∧ Below w.heap.size w w' := by
  have hR := ownRows_right hc who
  have hq : refuQ rows owners who = ((Sig.separate (ownRows rows owners who) (targetP rows)).getD [], (Sig.separate (ownRows rows owners who) (targetP rows)).isSome, 0) := by
    unfold refuQ
    rw [if_pos hc, if_pos hw]
    cases Sig.separate (ownRows rows owners who) (targetP rows) <;> rfl
  have hb1 := below_alloc1 w (.cells #[.slice A0 rows.length c0, .slice A1 owners.length c1] 25)
  obtain ⟨p0, p1, p2⟩ := box_prog w (.slice A0 rows.length c0) (.slice A1 owners.length c1) 25
  have HQ := Aside0.mk hq
  have HR := Aside0.mk hR
  have HC := Aside0.mk (question_c (h0.below hb1) (h1.below hb1) (h2.below hb1) hc hw)
  have HB := Aside0.mk hb1
  clear hR hq hb1 h0 h1 h2
  go_enter Try.func49, Try.ntmps49
  go_wp2_with fail
  refine HC.out.mono ?_
  rintro e w2 ⟨A4, c4, A5, c5, A6, c6, rfl, s4, r5, s6, hb2⟩
  have HS := Aside0.mk (separate_c A4 c4 (ownRows rows owners who) A6 c6 (targetP rows) w2 s4.rd s4.le s6.rd s6.le HR.out.1 HR.out.2.1 HR.out.2.2.1 HR.out.2.2.2)
  have HB2 := Aside0.mk (below_then HB.out HB.out.size hb2)
  clear s4 r5 s6 hb2 HC HB p0 p1 p2
  generalize (targetP rows).length = tl at HS ⊢
  generalize (ownRows rows owners who).length = rl at HS ⊢
  generalize (ownIdx owners who rows.length).length = il
  go_wp2_with fail
  refine HS.out.mono ?_
  rintro e w3 ⟨v, rfl, hv, hb3⟩
  have HV := Aside0.mk hv
  have HB3 := Aside0.mk hb3
  clear hv hb3 HS
  generalize Sig.separate (ownRows rows owners who) (targetP rows) = sp at HQ HV ⊢
  obtain ⟨vA, vc, rfl⟩ := Kd.R_slice HV.out
  go_wp2
  go_ret3
  rw [HQ.out]
  exact ⟨_, rfl, Kd.R_mono (Kd.R_lower HV.out HB2.out.size) (fun _ _ => trivial), below_then HB2.out HB2.out.size HB3.out⟩
def progOk (rows : List (List Int)) (owners who : List Int) : Bool := decide (checkP rows owners = 0) && peopleOk (-1) who
def program_Refuses.f (l0_0 : List (List Int)) (l0_1 : List Int) (l1 : List Int) : Option (List Int × Bool × Int) := if progOk l0_0 l0_1 l1 = true then some (refuQ l0_0 l0_1 l1) else none
theorem program_Refuses.calls (A0_0 : Option Addr) (c0_0 : Nat) (l0_0 : List (List Int)) (A0_1 : Option Addr) (c0_1 : Nat) (l0_1 : List Int) (A1 : Option Addr) (c1 : Nat) (l1 : List Int) (r1 : List Int) (r2 : Bool) (r3 : Int) (w : World) (hr0_0 : Kd.C (Kd.slice 3 (Kd.int .i64)) w A0_0 l0_0.length l0_0) (hc0_0 : l0_0.length ≤ c0_0) (hr0_1 : Kd.C (Kd.int .i64) w A0_1 l0_1.length l0_1) (hc0_1 : l0_1.length ≤ c0_1) (hr1 : Kd.C (Kd.int .i64) w A1 l1.length l1) (hc1 : l1.length ≤ c1) (h : program_Refuses.f l0_0 l0_1 l1 = some (r1, r2, r3)) :
    Calls Try.prog 49 #[.agg #[.slice A0_0 l0_0.length c0_0, .slice A0_1 l0_1.length c0_1], .slice A1 l1.length c1] w fun e w' => ∃ v0_ : Value, e = .returned (.tuple #[v0_, .bool r2, .int .i64 r3]) ∧ Kd.R (Kd.int .i64) 3 w' w.heap.size (fun _ => True) v0_ r1 ∧ Below w.heap.size w w' := by
  unfold program_Refuses.f at h
  split at h
  · rename_i hk
    unfold progOk at hk
    rw [Bool.and_eq_true, decide_eq_true_eq] at hk
    have := refuses_w (w := w) ⟨hc0_0, hr0_0⟩ ⟨hc0_1, hr0_1⟩ ⟨hc1, hr1⟩ hk.1 hk.2
    rw [Option.some.inj h] at this
    exact this
  · cases h
end Go.Proofs.Ytdbamhckgaoibaa.P
namespace Go.Proofs.Ytdbamhckgaoibaa.P
open Go.RowKit Go.Proofs.YtdbamhckgaoibaaW.PrintWords Go.Proofs.YtdbamhckgaoibaaW.PrintLast Go.Proofs.YtdbamhckgaoibaaW.PrintMore
attribute [local go_sem] max2_int min2_int max_two min_two max_three min_three max_four min_four
set_option linter.unusedVariables false
set_option linter.unusedSimpArgs false
mutual
def signatoryref34_Of.l0 : Nat → List (S38) → List Int → List (S38) → Int → List (List Int) → List Int → Option ((List (S38)))
 | 0, _, _, _, _, _, _ => none
 | k + 1, x1, x2, x7, x8, x369000, x369001 => if x8 < (x1.length : Int) then (if 0 ≤ x8 then (if 0 ≤ ((rd_T38 x1 x8).f0) then (if ((rd_T38 x1 x8).f0) < (x369001.length : Int) then (signatoryref34_Of.l1 k x1 x2 x7 x8 (rd x369001 ((rd_T38 x1 x8).f0)) 0 x369000 x369001) else (none)) else (none)) else (none)) else (some x7)
def signatoryref34_Of.l1 : Nat → List (S38) → List Int → List (S38) → Int → Int → Int → List (List Int) → List Int → Option ((List (S38)))
 | 0, _, _, _, _, _, _, _, _ => none
 | k + 1, x1, x2, x7, x8, x9, x10, x369000, x369001 => if x10 < (x2.length : Int) then (if 0 ≤ x10 then (if (rd x2 x10) = x9 then (if 0 ≤ x8 then (if x8 < (x1.length : Int) then (if x7.length < 8796093022208 then (signatoryref34_Of.l1 k x1 x2 (x7 ++ [(⟨(rd_T38 x1 x8).f0, (rd_T38 x1 x8).f1⟩ : S38)]) x8 x9 (wrap64 (x10 + 1)) x369000 x369001) else (none)) else (none)) else (none)) else (signatoryref34_Of.l1 k x1 x2 x7 x8 x9 (wrap64 (x10 + 1)) x369000 x369001)) else (none)) else (signatoryref34_Of.l0 k x1 x2 x7 (wrap64 (x8 + 1)) x369000 x369001)
end
def signatoryref34_Of.f (k : Nat) (l0_0 : List (List Int)) (l0_1 : List Int) (l1 : List (S38)) (l2 : List Int) : Option ((List (S38))) := signatoryref34_Of.l0 k l1 l2 (([] : List (S38))) 0 l0_0 l0_1
set_option maxHeartbeats 8000000 in
set_option maxRecDepth 100000 in
theorem signatoryref34_Of.calls (k : Nat) (A0_0 : Option Addr) (c0_0 : Nat) (l0_0 : List (List Int)) (A0_1 : Option Addr) (c0_1 : Nat) (l0_1 : List Int) (A1 : Option Addr) (c1 : Nat) (l1 : List (S38)) (A2 : Option Addr) (c2 : Nat) (l2 : List Int) (r : List (S38)) (w : World) (hr0_0 : Kd.C (Kd.slice 3 (Kd.int .i64)) w A0_0 l0_0.length l0_0) (hc0_0 : l0_0.length ≤ c0_0) (hr0_1 : Kd.C (Kd.int .i64) w A0_1 l0_1.length l0_1) (hc0_1 : l0_1.length ≤ c0_1) (hr1 : Kd.C k38 w A1 l1.length l1) (hc1 : l1.length ≤ c1) (hr2 : Kd.C (Kd.int .i64) w A2 l2.length l2) (hc2 : l2.length ≤ c2) (h : signatoryref34_Of.f k l0_0 l0_1 l1 l2 = some r) :
  Calls Try.prog 53 #[.agg #[.slice A0_0 l0_0.length c0_0, .slice A0_1 l0_1.length c0_1], .slice A1 l1.length c1, .slice A2 l2.length c2] w fun e w' => ∃ v0_ : Value, e = .returned (v0_) ∧ Kd.R k38 38 w' w.heap.size (fun _ => True) v0_ r ∧ Below w.heap.size w w' := by
 have hu25 := Try.underlying25
 have hu38 := Try.underlying38
 have HR0_0 := Aside0.mk hr0_0
 have HC0_0 := Aside0.mk hc0_0
 clear hr0_0 hc0_0
 have HR0_1 := Aside0.mk hr0_1
 have HC0_1 := Aside0.mk hc0_1
 clear hr0_1 hc0_1
 have HR1 := Aside0.mk hr1
 have HC1 := Aside0.mk hc1
 clear hr1 hc1
 have HR2 := Aside0.mk hr2
 have HC2 := Aside0.mk hc2
 clear hr2 hc2
 have HB := Aside0.mk (Below.refl w.heap.size w)
 have H : (signatoryref34_Of.l0 k l1 l2 (([] : List (S38))) 0 l0_0 l0_1) = some r := h
 clear h
 obtain ⟨y369, hy369⟩ : ∃ y_ : List (S38), y_ = (([] : List (S38))) := ⟨_, rfl⟩
 replace H : (signatoryref34_Of.l0 k l1 l2 y369 0 l0_0 l0_1) = some r := by first | (rw [hy369]; with_reducible exact H) | (have H2_ := (Option.bind_some _ _).symm.trans H; rw [hy369]; with_reducible exact H2_) | (have H2_ := (Option.bind_some _ _).symm.trans H; with_reducible exact H2_) | with_reducible exact H | (rw [hy369]; exact H) | exact H
 have Ny369 := Aside0.mk hy369
 clear hy369
 have H' := Aside0.mk H
 clear H
 go_enter Try.func53, Try.ntmps53
 go_wp2_with (first | ((with_reducible refine gate_dst (N := 3) rfl ?_); refine box_event ?hg (N := 3) ?hd (cs := #[.slice A0_0 l0_0.length c0_0, .slice A0_1 l0_1.length c0_1]) (t := 25) ?hr ?_; (case hd => rfl); (case hg => rfl); (case hr => first | (go_simp; done) | (go_simp; rfl)); intro gb368 hg w4 hbox hb; have n0_ := Aside0.mk (below_step (by repeat (first | (with_reducible first | exact HB.out | apply below_alloc | apply pw_below_drewN | apply below_drew1) | exact HB.out)) hb); have n1_ := Aside0.mk (hbox); have n2_ := Aside0.mk ((by rw [hg]; exact (below_size (by repeat (first | (with_reducible first | exact HB.out | apply below_alloc | apply pw_below_drewN | apply below_drew1) | exact HB.out))) : w.heap.size ≤ gb368)); have n3_ := Aside0.mk ((by rw [hg]; exact (below_size (by repeat (first | (with_reducible first | exact HB.out | apply below_alloc | apply pw_below_drewN | apply below_drew1) | exact HB.out))) : w.heap.size ≤ gb368)); clear HB; have HB := n0_; have BK368 := n1_; have GW368 := n2_; have GE368 := n3_; clear n0_ n1_ n2_ n3_; clear hb hbox hg) | ((with_reducible refine gate_dst (N := 11) rfl ?_); refine Kd.R_lit k38 _ 38 ?hg (N := 11) ?hd (xs := ([] : List (S38))) (inner := []) (ok := fun _ => True) (okp := fun _ => True) ?hr ?hp (fun _ hk => hk) trivial (Below.refl _ _) (Nat.le_refl _) (by simp) ?_; (case hd => rfl); (case hg => rfl); (case hr => first | (go_simp; done) | (go_simp; rfl)); (case hp => exact (Reps.none _ _)); intro v370 w5 ho6 hb hg_ hnew_; clear hg_ hnew_; (first | rw [← Ny369.out] at ho6 | (simp only [Int.reduceToNat] at ho6; rw [← Ny369.out] at ho6)); have n0_ := Aside0.mk (Kd.R_lower ho6 (below_size (by repeat (first | (with_reducible first | exact HB.out | apply below_alloc | apply pw_below_drewN | apply below_drew1 | refine below_set ?_ GE368.out) | exact HB.out)))); have n1_ := Aside0.mk (blk_below (g := gb368) (o := .cells #[.slice A0_0 l0_0.length c0_0, .slice A0_1 l0_1.length c0_1] 25 (0, 0)) (by (with_reducible repeat (first | refine blk_drewN ?_ _ | refine blk_drew ?_ | refine blk_alloc ?_ _)); exact BK368.out) hb); have n2_ := Aside0.mk (below_step (by repeat (first | (with_reducible first | exact HB.out | apply below_alloc | apply pw_below_drewN | apply below_drew1 | refine below_set ?_ GE368.out) | exact HB.out)) hb); clear BK368; clear HB; have HO371 := n0_; have BK368 := n1_; have HB := n2_; clear n0_ n1_ n2_; clear hb ho6))
 repeat (go_quiet (first | ((with_reducible refine gate_dst (N := 3) rfl ?_); refine box_event ?hg (N := 3) ?hd (cs := #[.slice A0_0 l0_0.length c0_0, .slice A0_1 l0_1.length c0_1]) (t := 25) ?hr ?_; (case hd => rfl); (case hg => rfl); (case hr => first | (go_simp; done) | (go_simp; rfl)); intro gb368 hg w4 hbox hb; have n0_ := Aside0.mk (below_step (by repeat (first | (with_reducible first | exact HB.out | apply below_alloc | apply pw_below_drewN | apply below_drew1) | exact HB.out)) hb); have n1_ := Aside0.mk (hbox); have n2_ := Aside0.mk ((by rw [hg]; exact (below_size (by repeat (first | (with_reducible first | exact HB.out | apply below_alloc | apply pw_below_drewN | apply below_drew1) | exact HB.out))) : w.heap.size ≤ gb368)); have n3_ := Aside0.mk ((by rw [hg]; exact (below_size (by repeat (first | (with_reducible first | exact HB.out | apply below_alloc | apply pw_below_drewN | apply below_drew1) | exact HB.out))) : w.heap.size ≤ gb368)); clear HB; have HB := n0_; have BK368 := n1_; have GW368 := n2_; have GE368 := n3_; clear n0_ n1_ n2_ n3_; clear hb hbox hg) | ((with_reducible refine gate_dst (N := 11) rfl ?_); refine Kd.R_lit k38 _ 38 ?hg (N := 11) ?hd (xs := ([] : List (S38))) (inner := []) (ok := fun _ => True) (okp := fun _ => True) ?hr ?hp (fun _ hk => hk) trivial (Below.refl _ _) (Nat.le_refl _) (by simp) ?_; (case hd => rfl); (case hg => rfl); (case hr => first | (go_simp; done) | (go_simp; rfl)); (case hp => exact (Reps.none _ _)); intro v370 w5 ho6 hb hg_ hnew_; clear hg_ hnew_; (first | rw [← Ny369.out] at ho6 | (simp only [Int.reduceToNat] at ho6; rw [← Ny369.out] at ho6)); have n0_ := Aside0.mk (Kd.R_lower ho6 (below_size (by repeat (first | (with_reducible first | exact HB.out | apply below_alloc | apply pw_below_drewN | apply below_drew1 | refine below_set ?_ GE368.out) | exact HB.out)))); have n1_ := Aside0.mk (blk_below (g := gb368) (o := .cells #[.slice A0_0 l0_0.length c0_0, .slice A0_1 l0_1.length c0_1] 25 (0, 0)) (by (with_reducible repeat (first | refine blk_drewN ?_ _ | refine blk_drew ?_ | refine blk_alloc ?_ _)); exact BK368.out) hb); have n2_ := Aside0.mk (below_step (by repeat (first | (with_reducible first | exact HB.out | apply below_alloc | apply pw_below_drewN | apply below_drew1 | refine below_set ?_ GE368.out) | exact HB.out)) hb); clear BK368; clear HB; have HO371 := n0_; have BK368 := n1_; have HB := n2_; clear n0_ n1_ n2_; clear hb ho6)); try go_wp2_with (first | ((with_reducible refine gate_dst (N := 3) rfl ?_); refine box_event ?hg (N := 3) ?hd (cs := #[.slice A0_0 l0_0.length c0_0, .slice A0_1 l0_1.length c0_1]) (t := 25) ?hr ?_; (case hd => rfl); (case hg => rfl); (case hr => first | (go_simp; done) | (go_simp; rfl)); intro gb368 hg w4 hbox hb; have n0_ := Aside0.mk (below_step (by repeat (first | (with_reducible first | exact HB.out | apply below_alloc | apply pw_below_drewN | apply below_drew1) | exact HB.out)) hb); have n1_ := Aside0.mk (hbox); have n2_ := Aside0.mk ((by rw [hg]; exact (below_size (by repeat (first | (with_reducible first | exact HB.out | apply below_alloc | apply pw_below_drewN | apply below_drew1) | exact HB.out))) : w.heap.size ≤ gb368)); have n3_ := Aside0.mk ((by rw [hg]; exact (below_size (by repeat (first | (with_reducible first | exact HB.out | apply below_alloc | apply pw_below_drewN | apply below_drew1) | exact HB.out))) : w.heap.size ≤ gb368)); clear HB; have HB := n0_; have BK368 := n1_; have GW368 := n2_; have GE368 := n3_; clear n0_ n1_ n2_ n3_; clear hb hbox hg) | ((with_reducible refine gate_dst (N := 11) rfl ?_); refine Kd.R_lit k38 _ 38 ?hg (N := 11) ?hd (xs := ([] : List (S38))) (inner := []) (ok := fun _ => True) (okp := fun _ => True) ?hr ?hp (fun _ hk => hk) trivial (Below.refl _ _) (Nat.le_refl _) (by simp) ?_; (case hd => rfl); (case hg => rfl); (case hr => first | (go_simp; done) | (go_simp; rfl)); (case hp => exact (Reps.none _ _)); intro v370 w5 ho6 hb hg_ hnew_; clear hg_ hnew_; (first | rw [← Ny369.out] at ho6 | (simp only [Int.reduceToNat] at ho6; rw [← Ny369.out] at ho6)); have n0_ := Aside0.mk (Kd.R_lower ho6 (below_size (by repeat (first | (with_reducible first | exact HB.out | apply below_alloc | apply pw_below_drewN | apply below_drew1 | refine below_set ?_ GE368.out) | exact HB.out)))); have n1_ := Aside0.mk (blk_below (g := gb368) (o := .cells #[.slice A0_0 l0_0.length c0_0, .slice A0_1 l0_1.length c0_1] 25 (0, 0)) (by (with_reducible repeat (first | refine blk_drewN ?_ _ | refine blk_drew ?_ | refine blk_alloc ?_ _)); exact BK368.out) hb); have n2_ := Aside0.mk (below_step (by repeat (first | (with_reducible first | exact HB.out | apply below_alloc | apply pw_below_drewN | apply below_drew1 | refine below_set ?_ GE368.out) | exact HB.out)) hb); clear BK368; clear HB; have HO371 := n0_; have BK368 := n1_; have HB := n2_; clear n0_ n1_ n2_; clear hb ho6)))
 go_loopg [7, 8] k (fun kq v7 v8 w' => ∃ (x7_1 : List (S38)) (x8_1 : Int), v8 = .int .i64 x8_1 ∧ Aside0 (signatoryref34_Of.l0 kq l1 l2 x7_1 x8_1 l0_0 l0_1 = some r) ∧ Aside0 (kq ≤ k) ∧ Aside0 (Kd.R k38 38 w' w.heap.size (fun _ => True) v7 x7_1) ∧ Aside0 (w'.heap[gb368]? = some (.cells #[(.slice A0_0 l0_0.length c0_0), (.slice A0_1 l0_1.length c0_1)] 25 (0, 0))) ∧ Aside0 (Below w.heap.size w w'))
 case atStart => exact ⟨(y369), (0), (by first | rfl | (simp; done) | (simp [*]; done)), H', ⟨Nat.le_refl _⟩, ⟨by (with_reducible repeat (first | apply Kd.R_alloc | apply Kd.R_drewN | apply Kd.R_drew)); exact HO371.out⟩, ⟨by (with_reducible repeat (first | refine blk_drewN ?_ _ | refine blk_drew ?_ | refine blk_alloc ?_ _)); exact BK368.out⟩, ⟨by repeat (first | (with_reducible first | exact HB.out | apply below_alloc | apply pw_below_drewN | apply below_drew1 | refine below_set ?_ GE368.out) | exact HB.out)⟩⟩
 case round =>
  clear H'
  try clear c1
  try clear c2
  try clear p2
  try clear c5
  obtain ⟨x7_1, x8_1, rfl, HA, HK1, HO_7, BK368, HB⟩ := hrel
  cases gk with
  | zero => exact absurd HA.out (by simp [signatoryref34_Of.l0])
  | succ k1 =>
   have H := HA.out
   clear HA
   simp only [signatoryref34_Of.l0] at H
   by_cases c7 : x8_1 < (l1.length : Int)
   ·rw [if_pos c7] at H
    have c7b0 : decide (x8_1 < (l1.length : Int)) = true := decide_eq_true c7
    clear c7
    by_cases c8 : 0 ≤ x8_1
    ·rw [if_pos c8] at H
     have c8b0 : decide (0 ≤ x8_1) = true := decide_eq_true c8
     clear c8
     by_cases c9 : 0 ≤ ((rd_T38 l1 x8_1).f0)
     ·rw [if_pos c9] at H
      have c9b0 : decide (0 ≤ ((rd_T38 l1 x8_1).f0)) = true := decide_eq_true c9
      clear c9
      by_cases c10 : ((rd_T38 l1 x8_1).f0) < (l0_1.length : Int)
      ·rw [if_pos c10] at H
       have c10b0 : decide (((rd_T38 l1 x8_1).f0) < (l0_1.length : Int)) = true := decide_eq_true c10
       clear c10
       have H' := Aside0.mk H
       clear H
       have hcz11_0 : wr.cell? ⟨gb368, 0, none⟩ = some (.slice A0_0 l0_0.length c0_0) := (blk_cell BK368.out 0).trans rfl
       have hcz11_1 : wr.cell? ⟨gb368, 1, none⟩ = some (.slice A0_1 l0_1.length c0_1) := (blk_cell BK368.out 1).trans rfl
       have hfz11_0 := blk_frozen BK368.out 0
       have hfz11_1 := blk_frozen BK368.out 1
       have p372 : 0 ≤ (x8_1 : Int) := of_decide_eq_true (by first | (with_reducible assumption) | assumption)
       have q372 : x8_1 < (l1.length : Int) := of_decide_eq_true (by first | (with_reducible assumption) | assumption)
       obtain ⟨ad372, e372, hx372_0, hx372_1⟩ := at_T38 HR1.out x8_1 p372 q372
       cases e372
       replace hx372_0 := (HB.out.cell (World.block_lt_of_cell? w _ hx372_0)).trans hx372_0
       replace hx372_1 := (HB.out.cell (World.block_lt_of_cell? w _ hx372_1)).trans hx372_1
       replace p372 := eq_true p372
       replace q372 := eq_true q372
       have p373 : 0 ≤ (((rd_T38 l1 x8_1).f0) : Int) := of_decide_eq_true (by first | (with_reducible assumption) | assumption)
       have q373 : ((rd_T38 l1 x8_1).f0) < (l0_1.length : Int) := of_decide_eq_true (by first | (with_reducible assumption) | assumption)
       obtain ⟨ad373, e373, hx373_0⟩ := Kd.at_int HR0_1.out ((rd_T38 l1 x8_1).f0) p373 q373
       cases e373
       replace hx373_0 := (HB.out.cell (World.block_lt_of_cell? w _ hx373_0)).trans hx373_0
       replace p373 := eq_true p373
       replace q373 := eq_true q373
       go_wp2
       repeat (go_quiet (fail); try go_wp2)
       go_loopg [7, 10] k1 (fun kq v7 v10 w' => ∃ (x7_2 : List (S38)) (x10_2 : Int), v10 = .int .i64 x10_2 ∧ Aside0 (signatoryref34_Of.l1 kq l1 l2 x7_2 x8_1 (rd l0_1 ((rd_T38 l1 x8_1).f0)) x10_2 l0_0 l0_1 = some r) ∧ Aside0 (kq ≤ k1) ∧ Aside0 (Kd.R k38 38 w' w.heap.size (fun _ => True) v7 x7_2) ∧ Aside0 (w'.heap[gb368]? = some (.cells #[(.slice A0_0 l0_0.length c0_0), (.slice (some ad373) l0_1.length c0_1)] 25 (0, 0))) ∧ Aside0 (Below w.heap.size w w'))
       case atStart => exact ⟨(x7_1), (0), (by first | rfl | (simp; done) | (simp [*]; done)), H', ⟨Nat.le_refl _⟩, ⟨by (with_reducible repeat (first | apply Kd.R_alloc | apply Kd.R_drewN | apply Kd.R_drew)); exact HO_7.out⟩, ⟨by (with_reducible repeat (first | refine blk_drewN ?_ _ | refine blk_drew ?_ | refine blk_alloc ?_ _)); exact BK368.out⟩, ⟨by repeat (first | (with_reducible first | exact HB.out | apply below_alloc | apply pw_below_drewN | apply below_drew1 | refine below_set ?_ GE368.out) | exact HB.out)⟩⟩
       case round =>
        clear H'
        try clear c1
        try clear c2
        try clear p2
        try clear p3
        try clear q3
        try clear hx3
        try clear c5
        try clear c7
        try clear c7b0
        try clear c8
        try clear c8b0
        try clear c9
        try clear c9b0
        try clear c10
        try clear c10b0
        try clear hcz11_0
        try clear hcz11_1
        try clear hfz11_0
        try clear hfz11_1
        try clear hx372_0
        try clear hx372_1
        try clear hx373_0
        try clear p2
        try clear p372
        try clear p373
        try clear q372
        try clear q373
        obtain ⟨x7_2, x10_2, rfl, HA, HK2, HO_7, BK368, HB⟩ := hrel
        cases gk with
        | zero => exact absurd HA.out (by simp [signatoryref34_Of.l1])
        | succ k2 =>
         have H := HA.out
         clear HA
         simp only [signatoryref34_Of.l1] at H
         by_cases c12 : x10_2 < (l2.length : Int)
         ·rw [if_pos c12] at H
          have c12b0 : decide (x10_2 < (l2.length : Int)) = true := decide_eq_true c12
          clear c12
          by_cases c13 : 0 ≤ x10_2
          ·rw [if_pos c13] at H
           have c13b0 : decide (0 ≤ x10_2) = true := decide_eq_true c13
           clear c13
           by_cases c14 : (rd l2 x10_2) = (rd l0_1 ((rd_T38 l1 x8_1).f0))
           ·rw [if_pos c14] at H
            have c14b0 : ((rd l2 x10_2) == (rd l0_1 ((rd_T38 l1 x8_1).f0))) = true := beq_iff_eq.mpr c14
            have c14b1 : ((rd l2 x10_2) != (rd l0_1 ((rd_T38 l1 x8_1).f0))) = false := bne_eq_false_iff_eq.mpr c14
            clear c14
            by_cases c15 : 0 ≤ x8_1
            ·rw [if_pos c15] at H
             have c15b0 : decide (0 ≤ x8_1) = true := decide_eq_true c15
             clear c15
             by_cases c16 : x8_1 < (l1.length : Int)
             ·rw [if_pos c16] at H
              have c16b0 : decide (x8_1 < (l1.length : Int)) = true := decide_eq_true c16
              clear c16
              by_cases c17 : x7_2.length < 8796093022208
              ·rw [if_pos c17] at H
               have LMc17 := Aside0.mk c17
               clear c17
               obtain ⟨y376, hy376⟩ : ∃ y_ : List (S38), y_ = (x7_2 ++ [(⟨(rd_T38 l1 x8_1).f0, (rd_T38 l1 x8_1).f1⟩ : S38)]) := ⟨_, rfl⟩
               replace H : (signatoryref34_Of.l1 k2 l1 l2 y376 x8_1 (rd l0_1 ((rd_T38 l1 x8_1).f0)) (wrap64 (x10_2 + 1)) l0_0 l0_1) = some r := by first | (rw [hy376]; with_reducible exact H) | (have H2_ := (Option.bind_some _ _).symm.trans H; rw [hy376]; with_reducible exact H2_) | (have H2_ := (Option.bind_some _ _).symm.trans H; with_reducible exact H2_) | with_reducible exact H | (rw [hy376]; exact H) | exact H
               have Ny376 := Aside0.mk hy376
               clear hy376
               have H' := Aside0.mk H
               clear H
               have p374 : 0 ≤ (x10_2 : Int) := of_decide_eq_true (by first | (with_reducible assumption) | assumption)
               have q374 : x10_2 < (l2.length : Int) := of_decide_eq_true (by first | (with_reducible assumption) | assumption)
               obtain ⟨ad374, e374, hx374_0⟩ := Kd.at_int HR2.out x10_2 p374 q374
               cases e374
               replace hx374_0 := (HB.out.cell (World.block_lt_of_cell? w _ hx374_0)).trans hx374_0
               replace p374 := eq_true p374
               replace q374 := eq_true q374
               have p375 : 0 ≤ (x8_1 : Int) := of_decide_eq_true (by first | (with_reducible assumption) | assumption)
               have q375 : x8_1 < (l1.length : Int) := of_decide_eq_true (by first | (with_reducible assumption) | assumption)
               obtain ⟨ad375, e375, hx375_0, hx375_1⟩ := at_T38 HR1.out x8_1 p375 q375
               obtain rfl : ad372 = ad375 := (by injection e375)
               replace hx375_0 := (HB.out.cell (World.block_lt_of_cell? w _ hx375_0)).trans hx375_0
               replace hx375_1 := (HB.out.cell (World.block_lt_of_cell? w _ hx375_1)).trans hx375_1
               replace p375 := eq_true p375
               replace q375 := eq_true q375
               go_wp2_with (first | ((with_reducible refine gate_builtin (b := .append) (xs := #[.tmp 39, .tmp 44]) rfl ?_); at_builtin; refine Kd.R_append k38 (w0 := w) w.heap.size rfl (.tmp 39) (.tmp 44) 26 38 (.agg #[(.int .i64 0), (.int .i64 0)]) 16 rfl Try.underlying26 info38 rfl (by decide) (by omega) u7 x7_2 (⟨(rd_T38 l1 x8_1).f0, (rd_T38 l1 x8_1).f1⟩ : S38) [.int .i64 ((rd_T38 l1 x8_1).f0), .int .i64 ((rd_T38 l1 x8_1).f1)] (fun _ => True) (fun _ => False) rfl rfl ?aP (fun _ hk => hk.elim) ?aF ?aO ?aB ?aS ?aL ?_; (case aP => exact k38_mkM _ _ _ (⟨(rd_T38 l1 x8_1).f0, (rd_T38 l1 x8_1).f1⟩ : S38)); (case aB => exact (by repeat (first | (with_reducible first | exact HB.out | apply below_alloc | apply pw_below_drewN | apply below_drew1 | refine below_set ?_ GE368.out) | exact HB.out))); (case aF => exact (fun _ _ => trivial)); (case aO => exact (by (with_reducible repeat (first | apply Kd.R_alloc | apply Kd.R_drewN | apply Kd.R_drew)); exact HO_7.out)); (case aS => exact (below_size (by repeat (first | (with_reducible first | exact HB.out | apply below_alloc | apply pw_below_drewN | apply below_drew1 | refine below_set ?_ GE368.out) | exact HB.out)))); (case aL => have := LMc17.out; omega); intro v377 w18 ho hb hg hat; rw [← Ny376.out] at ho; have n0_ := Aside0.mk (blk_grown (g := gb368) (o := .cells #[.slice A0_0 l0_0.length c0_0, .slice (some ad373) l0_1.length c0_1] 25 (0, 0)) (by (with_reducible repeat (first | refine blk_drewN ?_ _ | refine blk_drew ?_ | refine blk_alloc ?_ _)); exact BK368.out) hg (Kd.R_ne HO_7.out BK368.out (by decide))); have n1_ := Aside0.mk (hb); have n2_ := Aside0.mk (ho); clear BK368; clear HB; clear HO_7; have BK368 := n0_; have HB := n1_; have HO378 := n2_; clear n0_ n1_ n2_; clear ho hb hg hat))
               repeat (go_quiet (first | ((with_reducible refine gate_builtin (b := .append) (xs := #[.tmp 39, .tmp 44]) rfl ?_); at_builtin; refine Kd.R_append k38 (w0 := w) w.heap.size rfl (.tmp 39) (.tmp 44) 26 38 (.agg #[(.int .i64 0), (.int .i64 0)]) 16 rfl Try.underlying26 info38 rfl (by decide) (by omega) u7 x7_2 (⟨(rd_T38 l1 x8_1).f0, (rd_T38 l1 x8_1).f1⟩ : S38) [.int .i64 ((rd_T38 l1 x8_1).f0), .int .i64 ((rd_T38 l1 x8_1).f1)] (fun _ => True) (fun _ => False) rfl rfl ?aP (fun _ hk => hk.elim) ?aF ?aO ?aB ?aS ?aL ?_; (case aP => exact k38_mkM _ _ _ (⟨(rd_T38 l1 x8_1).f0, (rd_T38 l1 x8_1).f1⟩ : S38)); (case aB => exact (by repeat (first | (with_reducible first | exact HB.out | apply below_alloc | apply pw_below_drewN | apply below_drew1 | refine below_set ?_ GE368.out) | exact HB.out))); (case aF => exact (fun _ _ => trivial)); (case aO => exact (by (with_reducible repeat (first | apply Kd.R_alloc | apply Kd.R_drewN | apply Kd.R_drew)); exact HO_7.out)); (case aS => exact (below_size (by repeat (first | (with_reducible first | exact HB.out | apply below_alloc | apply pw_below_drewN | apply below_drew1 | refine below_set ?_ GE368.out) | exact HB.out)))); (case aL => have := LMc17.out; omega); intro v377 w18 ho hb hg hat; rw [← Ny376.out] at ho; have n0_ := Aside0.mk (blk_grown (g := gb368) (o := .cells #[.slice A0_0 l0_0.length c0_0, .slice (some ad373) l0_1.length c0_1] 25 (0, 0)) (by (with_reducible repeat (first | refine blk_drewN ?_ _ | refine blk_drew ?_ | refine blk_alloc ?_ _)); exact BK368.out) hg (Kd.R_ne HO_7.out BK368.out (by decide))); have n1_ := Aside0.mk (hb); have n2_ := Aside0.mk (ho); clear BK368; clear HB; clear HO_7; have BK368 := n0_; have HB := n1_; have HO378 := n2_; clear n0_ n1_ n2_; clear ho hb hg hat)); try go_wp2_with (first | ((with_reducible refine gate_builtin (b := .append) (xs := #[.tmp 39, .tmp 44]) rfl ?_); at_builtin; refine Kd.R_append k38 (w0 := w) w.heap.size rfl (.tmp 39) (.tmp 44) 26 38 (.agg #[(.int .i64 0), (.int .i64 0)]) 16 rfl Try.underlying26 info38 rfl (by decide) (by omega) u7 x7_2 (⟨(rd_T38 l1 x8_1).f0, (rd_T38 l1 x8_1).f1⟩ : S38) [.int .i64 ((rd_T38 l1 x8_1).f0), .int .i64 ((rd_T38 l1 x8_1).f1)] (fun _ => True) (fun _ => False) rfl rfl ?aP (fun _ hk => hk.elim) ?aF ?aO ?aB ?aS ?aL ?_; (case aP => exact k38_mkM _ _ _ (⟨(rd_T38 l1 x8_1).f0, (rd_T38 l1 x8_1).f1⟩ : S38)); (case aB => exact (by repeat (first | (with_reducible first | exact HB.out | apply below_alloc | apply pw_below_drewN | apply below_drew1 | refine below_set ?_ GE368.out) | exact HB.out))); (case aF => exact (fun _ _ => trivial)); (case aO => exact (by (with_reducible repeat (first | apply Kd.R_alloc | apply Kd.R_drewN | apply Kd.R_drew)); exact HO_7.out)); (case aS => exact (below_size (by repeat (first | (with_reducible first | exact HB.out | apply below_alloc | apply pw_below_drewN | apply below_drew1 | refine below_set ?_ GE368.out) | exact HB.out)))); (case aL => have := LMc17.out; omega); intro v377 w18 ho hb hg hat; rw [← Ny376.out] at ho; have n0_ := Aside0.mk (blk_grown (g := gb368) (o := .cells #[.slice A0_0 l0_0.length c0_0, .slice (some ad373) l0_1.length c0_1] 25 (0, 0)) (by (with_reducible repeat (first | refine blk_drewN ?_ _ | refine blk_drew ?_ | refine blk_alloc ?_ _)); exact BK368.out) hg (Kd.R_ne HO_7.out BK368.out (by decide))); have n1_ := Aside0.mk (hb); have n2_ := Aside0.mk (ho); clear BK368; clear HB; clear HO_7; have BK368 := n0_; have HB := n1_; have HO378 := n2_; clear n0_ n1_ n2_; clear ho hb hg hat)))
               go_roundg k2
               case measure => have := HK1.out; have := HK2.out; omega
               case rel => exact ⟨(y376), (wrap64 (x10_2 + 1)), (by first | rfl | (simp; done) | (simp [*]; done)), H', ⟨by have := HK1.out; have := HK2.out; omega⟩, ⟨by (with_reducible repeat (first | apply Kd.R_alloc | apply Kd.R_drewN | apply Kd.R_drew)); exact HO378.out⟩, ⟨by (with_reducible repeat (first | refine blk_drewN ?_ _ | refine blk_drew ?_ | refine blk_alloc ?_ _)); exact BK368.out⟩, ⟨by repeat (first | (with_reducible first | exact HB.out | apply below_alloc | apply pw_below_drewN | apply below_drew1 | refine below_set ?_ GE368.out) | exact HB.out)⟩⟩
              ·rw [if_neg c17] at H
               exact absurd H (by simp)
             ·rw [if_neg c16] at H
              exact absurd H (by simp)
            ·rw [if_neg c15] at H
             exact absurd H (by simp)
           ·rw [if_neg c14] at H
            have c14b0 : ((rd l2 x10_2) == (rd l0_1 ((rd_T38 l1 x8_1).f0))) = false := beq_eq_false_iff_ne.mpr c14
            have c14b1 : ((rd l2 x10_2) != (rd l0_1 ((rd_T38 l1 x8_1).f0))) = true := bne_iff_ne.mpr c14
            have H' := Aside0.mk H
            clear H
            have p374 : 0 ≤ (x10_2 : Int) := of_decide_eq_true (by first | (with_reducible assumption) | assumption)
            have q374 : x10_2 < (l2.length : Int) := of_decide_eq_true (by first | (with_reducible assumption) | assumption)
            obtain ⟨ad374, e374, hx374_0⟩ := Kd.at_int HR2.out x10_2 p374 q374
            cases e374
            replace hx374_0 := (HB.out.cell (World.block_lt_of_cell? w _ hx374_0)).trans hx374_0
            replace p374 := eq_true p374
            replace q374 := eq_true q374
            go_wp2
            repeat (go_quiet (fail); try go_wp2)
            go_roundg k2
            case measure => have := HK1.out; have := HK2.out; omega
            case rel => exact ⟨(x7_2), (wrap64 (x10_2 + 1)), (by first | rfl | (simp; done) | (simp [*]; done)), H', ⟨by have := HK1.out; have := HK2.out; omega⟩, ⟨by (with_reducible repeat (first | apply Kd.R_alloc | apply Kd.R_drewN | apply Kd.R_drew)); exact HO_7.out⟩, ⟨by (with_reducible repeat (first | refine blk_drewN ?_ _ | refine blk_drew ?_ | refine blk_alloc ?_ _)); exact BK368.out⟩, ⟨by repeat (first | (with_reducible first | exact HB.out | apply below_alloc | apply pw_below_drewN | apply below_drew1 | refine below_set ?_ GE368.out) | exact HB.out)⟩⟩
          ·rw [if_neg c13] at H
           exact absurd H (by simp)
         ·rw [if_neg c12] at H
          have c12b0 : decide (x10_2 < (l2.length : Int)) = false := decide_eq_false c12
          clear c12
          have H' := Aside0.mk H
          clear H
          go_wp2
          repeat (go_quiet (fail); try go_wp2)
          go_roundg k2
          case measure => have := HK1.out; have := HK2.out; omega
          case rel => exact ⟨(x7_2), (wrap64 (x8_1 + 1)), (by first | rfl | (simp; done) | (simp [*]; done)), H', ⟨by have := HK1.out; have := HK2.out; omega⟩, ⟨by (with_reducible repeat (first | apply Kd.R_alloc | apply Kd.R_drewN | apply Kd.R_drew)); exact HO_7.out⟩, ⟨by (with_reducible repeat (first | refine blk_drewN ?_ _ | refine blk_drew ?_ | refine blk_alloc ?_ _)); exact BK368.out⟩, ⟨by repeat (first | (with_reducible first | exact HB.out | apply below_alloc | apply pw_below_drewN | apply below_drew1 | refine below_set ?_ GE368.out) | exact HB.out)⟩⟩
      ·rw [if_neg c10] at H
       exact absurd H (by simp)
     ·rw [if_neg c9] at H
      exact absurd H (by simp)
    ·rw [if_neg c8] at H
     exact absurd H (by simp)
   ·rw [if_neg c7] at H
    have c7b0 : decide (x8_1 < (l1.length : Int)) = false := decide_eq_false c7
    clear c7
    obtain rfl := Option.some.inj H
    go_wp2
    repeat (go_quiet (fail); try go_wp2)
    go_ret
    exact ⟨_, by first | rfl | (simp [errW_none, errW_some] <;> rfl) | (simp [*, errW_none, errW_some] <;> rfl), by (with_reducible repeat (first | apply Kd.R_alloc | apply Kd.R_drewN | apply Kd.R_drew)); exact HO_7.out, by repeat (first | (with_reducible first | exact HB.out | apply below_alloc | apply pw_below_drewN | apply below_drew1 | refine below_set ?_ GE368.out) | exact HB.out)⟩
def signatorylaw34_people.l0 : Nat → Int → List Int → Int → Option (List Int)
 | 0, _, _, _ => none
 | k + 1, x0, x2, x4 => if x4 < 64 then (if 0 ≤ x4 then (if (Go.bits .and .u64 (shr .u64 x0 x4) 1) = 1 then (if x2.length < 17592186044416 then (signatorylaw34_people.l0 k x0 (x2 ++ [x4]) (wrap64 (x4 + 1))) else (none)) else (signatorylaw34_people.l0 k x0 x2 (wrap64 (x4 + 1)))) else (none)) else (some x2)
def signatorylaw34_people.f (k : Nat) (a0 : Int) : Option (List Int) := signatorylaw34_people.l0 k a0 ([] : List Int) 0
set_option maxHeartbeats 8000000 in
set_option maxRecDepth 100000 in
theorem signatorylaw34_people.calls (k : Nat) (a0 : Int) (r : List Int) (w : World) (h : signatorylaw34_people.f k a0 = some r) :
  Calls Try.prog 61 #[.int .u64 a0] w fun e w' => ∃ v0_ : Value, e = .returned (v0_) ∧ Kd.R (Kd.int .i64) 3 w' w.heap.size (fun _ => True) v0_ r ∧ Below w.heap.size w w' := by
 have HB := Aside0.mk (Below.refl w.heap.size w)
 have H : (signatorylaw34_people.l0 k a0 ([] : List Int) 0) = some r := h
 clear h
 have H' := Aside0.mk H
 clear H
 go_enter Try.func61, Try.ntmps61
 go_wp2
 go_loopg [2, 4] k (fun kq v2 v4 w' => ∃ (x2_1 : List Int) (x4_1 : Int), v4 = .int .i64 x4_1 ∧ Aside0 (signatorylaw34_people.l0 kq a0 x2_1 x4_1 = some r) ∧ Aside0 (kq ≤ k) ∧ Aside0 (Kd.R (Kd.int .i64) 3 w' w.heap.size (fun _ => True) v2 x2_1) ∧ Aside0 (Below w.heap.size w w'))
 case atStart => exact ⟨(([] : List Int)), (0), (by first | rfl | (simp; done) | (simp [*]; done)), H', ⟨Nat.le_refl _⟩, ⟨by first | exact Kd.R_nil _ _ _ _ _ | exact Kd.N_nil _ _ _ _ _ | exact Kd.V_nil _ _ _ _ _ | exact Kd.Q_nil _ _ _ _ _ | exact Kd.S_nil _ _ _ _ _⟩, ⟨by repeat (first | (with_reducible first | exact HB.out | apply below_alloc | apply pw_below_drewN | apply below_drew1) | exact HB.out)⟩⟩
 case round =>
  clear H'
  obtain ⟨x2_1, x4_1, rfl, HA, HK1, HO_2, HB⟩ := hrel
  cases gk with
  | zero => exact absurd HA.out (by simp [signatorylaw34_people.l0])
  | succ k1 =>
   have H := HA.out
   clear HA
   simp only [signatorylaw34_people.l0] at H
   by_cases c2 : x4_1 < 64
   ·rw [if_pos c2] at H
    have c2b0 : decide (x4_1 < 64) = true := decide_eq_true c2
    clear c2
    by_cases c3 : 0 ≤ x4_1
    ·rw [if_pos c3] at H
     have c3b0 := eq_true c3
     have c3b1 : decide (0 ≤ x4_1) = true := decide_eq_true c3
     clear c3
     obtain ⟨ji4, hji4⟩ : ∃ j_ : Int, (shr .u64 a0 x4_1) = j_ := ⟨_, rfl⟩
     replace H : (if (Go.bits .and .u64 (ji4) 1) = 1 then (if x2_1.length < 17592186044416 then (signatorylaw34_people.l0 k1 a0 (x2_1 ++ [x4_1]) (wrap64 (x4_1 + 1))) else (none)) else (signatorylaw34_people.l0 k1 a0 x2_1 (wrap64 (x4_1 + 1)))) = some r := by first | (rw [hji4] at H; exact H) | (simp only [hji4] at H ⊢; exact H)
     have hji4_ : (a0 / 2 ^ min x4_1.toNat 64) = ji4 := hji4
     have hji4z : x4_1 ≤ 64 → (a0 / 2 ^ x4_1.toNat) = ji4 := shr_small hji4
     by_cases c5 : (Go.bits .and .u64 (ji4) 1) = 1
     ·rw [if_pos c5] at H
      have c5b0 : ((Go.bits .and .u64 (ji4) 1) == 1) = true := beq_iff_eq.mpr c5
      have c5b1 : ((Go.bits .and .u64 (ji4) 1) != 1) = false := bne_eq_false_iff_eq.mpr c5
      clear c5
      by_cases c6 : x2_1.length < 17592186044416
      ·rw [if_pos c6] at H
       have LMc6 := Aside0.mk c6
       clear c6
       obtain ⟨y398, hy398⟩ : ∃ y_ : List Int, y_ = (x2_1 ++ [x4_1]) := ⟨_, rfl⟩
       replace H : (signatorylaw34_people.l0 k1 a0 y398 (wrap64 (x4_1 + 1))) = some r := by first | (rw [hy398]; with_reducible exact H) | (have H2_ := (Option.bind_some _ _).symm.trans H; rw [hy398]; with_reducible exact H2_) | (have H2_ := (Option.bind_some _ _).symm.trans H; with_reducible exact H2_) | with_reducible exact H | (rw [hy398]; exact H) | exact H
       have Ny398 := Aside0.mk hy398
       clear hy398
       have H' := Aside0.mk H
       clear H
       go_wp2_with (first | ((with_reducible refine gate_builtin (b := .append) (xs := #[.tmp 12, .tmp 14]) rfl ?_); at_builtin; refine Kd.R_append (Kd.int .i64) (w0 := w) w.heap.size rfl (.tmp 12) (.tmp 14) 23 3 (.int .i64 0) 8 rfl Try.underlying23 info3 rfl (by decide) (by omega) u2 x2_1 x4_1 [.int .i64 x4_1] (fun _ => True) (fun _ => False) rfl rfl ?aP (fun _ hk => hk.elim) ?aF ?aO ?aB ?aS ?aL ?_; (case aP => exact rfl); (case aB => exact (by repeat (first | (with_reducible first | exact HB.out | apply below_alloc | apply pw_below_drewN | apply below_drew1) | exact HB.out))); (case aF => exact (fun _ _ => trivial)); (case aO => exact (by (with_reducible repeat (first | apply Kd.R_alloc | apply Kd.R_drewN | apply Kd.R_drew)); exact HO_2.out)); (case aS => exact (below_size (by repeat (first | (with_reducible first | exact HB.out | apply below_alloc | apply pw_below_drewN | apply below_drew1) | exact HB.out)))); (case aL => have := LMc6.out; omega); intro v399 w7 ho hb hg hat; rw [← Ny398.out] at ho; have n0_ := Aside0.mk (hb); have n1_ := Aside0.mk (ho); clear HB; clear HO_2; have HB := n0_; have HO400 := n1_; clear n0_ n1_; clear ho hb hg hat))
       go_roundg k1
       case measure => have := HK1.out; omega
       case rel => exact ⟨(y398), (wrap64 (x4_1 + 1)), (by first | rfl | (simp; done) | (simp [*]; done)), H', ⟨by have := HK1.out; omega⟩, ⟨by (with_reducible repeat (first | apply Kd.R_alloc | apply Kd.R_drewN | apply Kd.R_drew)); exact HO400.out⟩, ⟨by repeat (first | (with_reducible first | exact HB.out | apply below_alloc | apply pw_below_drewN | apply below_drew1) | exact HB.out)⟩⟩
      ·rw [if_neg c6] at H
       exact absurd H (by simp)
     ·rw [if_neg c5] at H
      have c5b0 : ((Go.bits .and .u64 (ji4) 1) == 1) = false := beq_eq_false_iff_ne.mpr c5
      have c5b1 : ((Go.bits .and .u64 (ji4) 1) != 1) = true := bne_iff_ne.mpr c5
      have H' := Aside0.mk H
      clear H
      go_wp2
      go_roundg k1
      case measure => have := HK1.out; omega
      case rel => exact ⟨(x2_1), (wrap64 (x4_1 + 1)), (by first | rfl | (simp; done) | (simp [*]; done)), H', ⟨by have := HK1.out; omega⟩, ⟨by (with_reducible repeat (first | apply Kd.R_alloc | apply Kd.R_drewN | apply Kd.R_drew)); exact HO_2.out⟩, ⟨by repeat (first | (with_reducible first | exact HB.out | apply below_alloc | apply pw_below_drewN | apply below_drew1) | exact HB.out)⟩⟩
    ·rw [if_neg c3] at H
     exact absurd H (by simp)
   ·rw [if_neg c2] at H
    have c2b0 : decide (x4_1 < 64) = false := decide_eq_false c2
    clear c2
    obtain rfl := Option.some.inj H
    go_wp2
    go_ret
    exact ⟨_, by first | rfl | (simp [errW_none, errW_some] <;> rfl) | (simp [*, errW_none, errW_some] <;> rfl), by (with_reducible repeat (first | apply Kd.R_alloc | apply Kd.R_drewN | apply Kd.R_drew)); exact HO_2.out, by repeat (first | (with_reducible first | exact HB.out | apply below_alloc | apply pw_below_drewN | apply below_drew1) | exact HB.out)⟩
end Go.Proofs.Ytdbamhckgaoibaa.P
namespace Go.Proofs.Ytdbamhckgaoibaa.P
open Go.RowKit Go.Proofs.YtdbamhckgaoibaaW.PrintWords Go.Proofs.YtdbamhckgaoibaaW.PrintLast Go.Proofs.YtdbamhckgaoibaaW.PrintMore
theorem deal_p {A0 A1 A2 : Option Addr} {c0 c1 c2 : Nat} {rows : List (List Int)} {owners : List Int} {secret : Int} {random : List Int} {sh : List S38} {cm : List Int} {e : Int} {W : World} (h0 : Sl (Kd.slice 3 (Kd.int .i64)) W A0 c0 rows) (h1 : Sl (Kd.int .i64) W A1 c1 owners) (h2 : Sl (Kd.int .i64) W A2 c2 random)
    (h : dealQ rows owners secret random = (sh, cm, e)) :
    Calls Try.prog 22 #[.agg #[.slice A0 rows.length c0, .slice A1 owners.length c1], .int .i64 secret, .slice A2 random.length c2] W fun e' w' => ∃ B0 d0 B1 d1, e' = .returned (.tuple #[.slice B0 sh.length d0, .slice B1 cm.length d1, .int .i64 e]) ∧ Sl k38 w' B0 d0 sh ∧ Sl (Kd.int .i64) w' B1 d1 cm ∧ Below W.heap.size W w' := by
  have := deal_w (secret := secret) h0 h1 h2
  rw [h] at this
  refine this.mono ?_
  rintro e' w' ⟨v0, v1, rfl, g0, g1, hb⟩
  obtain ⟨B0, d0, rfl, s0⟩ := Sl.ofR g0
  obtain ⟨B1, d1, rfl, s1⟩ := Sl.ofR g1
  exact ⟨B0, d0, B1, d1, rfl, s0, s1, hb⟩
theorem recover_p {A0 A1 A2 : Option Addr} {c0 c1 c2 : Nat} {rows : List (List Int)} {owners : List Int} {l : List S38} {x : Int} {ok : Bool} {e : Int} {W : World} (h0 : Sl (Kd.slice 3 (Kd.int .i64)) W A0 c0 rows) (h1 : Sl (Kd.int .i64) W A1 c1 owners) (h2 : Sl k38 W A2 c2 l)
    (h : recQ rows owners l = (x, ok, e)) :
    Calls Try.prog 24 #[.agg #[.slice A0 rows.length c0, .slice A1 owners.length c1], .slice A2 l.length c2] W fun e' w' => e' = .returned (.tuple #[.int .i64 x, .bool ok, .int .i64 e]) ∧ Below W.heap.size W w' :=
  dealing_Recover.calls A0 c0 rows A1 c1 owners A2 c2 l x ok e W h0.rd h0.le h1.rd h1.le h2.rd h2.le (congrArg some h)
theorem fits_p {A0 A1 A2 : Option Addr} {c0 c1 c2 : Nat} {rows : List (List Int)} {owners : List Int} {cm : List Int} {row v : Int} {ok : Bool} {e : Int} {W : World} (h0 : Sl (Kd.slice 3 (Kd.int .i64)) W A0 c0 rows) (h1 : Sl (Kd.int .i64) W A1 c1 owners) (h2 : Sl (Kd.int .i64) W A2 c2 cm)
    (h : fitsD rows owners cm row v = (ok, e)) :
    Calls Try.prog 30 #[.agg #[.slice A0 rows.length c0, .slice A1 owners.length c1], .slice A2 cm.length c2, .agg #[.int .i64 row, .int .i64 v]] W fun e' w' => e' = .returned (.tuple #[.bool ok, .int .i64 e]) ∧ Below W.heap.size W w' := by
  have := fits_w (row := row) (v := v) h0 h1 h2
  rw [h] at this
  exact this
theorem public_p {A0 A1 A2 : Option Addr} {c0 c1 c2 : Nat} {rows : List (List Int)} {owners : List Int} {cm : List Int} {row : Int} {x e : Int} {W : World} (h0 : Sl (Kd.slice 3 (Kd.int .i64)) W A0 c0 rows) (h1 : Sl (Kd.int .i64) W A1 c1 owners) (h2 : Sl (Kd.int .i64) W A2 c2 cm)
    (h : publicD rows owners cm row = (x, e)) :
    Calls Try.prog 28 #[.agg #[.slice A0 rows.length c0, .slice A1 owners.length c1], .slice A2 cm.length c2, .int .i64 row] W fun e' w' => e' = .returned (.tuple #[.int .i64 x, .int .i64 e]) ∧ Below W.heap.size W w' := by
  have := public_w (row := row) h0 h1 h2
  rw [h] at this
  exact this
end Go.Proofs.Ytdbamhckgaoibaa.P
namespace Go.Proofs.Ytdbamhckgaoibaa.P
open Go.RowKit Go.Proofs.YtdbamhckgaoibaaW.PrintWords Go.Proofs.YtdbamhckgaoibaaW.PrintLast Go.Proofs.YtdbamhckgaoibaaW.PrintMore
theorem ex_comb1 : Sig.combine [[1]] [1] = some [1] := by rw [combine_inv1]; decide +kernel
theorem ex_comb0 : Sig.combine [] [1] = none := by rw [combine_inv1]; decide +kernel
theorem ex_comb2 : Sig.combine [[1, 1], [1, 2]] [1, 0] = some [2, 1073741788] := by rw [combine_inv1]; decide +kernel
theorem ex_check1 : checkP [[1]] [4] = 0 := by decide +kernel
theorem ex_check2 : checkP [[1, 1], [1, 2]] [5, 6] = 0 := by decide +kernel
theorem ex_rec1 : recQ [[1]] [4] [⟨0, 7⟩] = (7, true, 0) := by
  unfold recQ recT
  rw [if_pos ex_check1, if_pos (by decide +kernel), show rowsOf [[1]] [⟨0, 7⟩] = [[1]] from rfl, show targetP [[1]] = [1] from rfl, ex_comb1]
  rfl
theorem ex_rec0 : recQ [[1]] [4] [] = (0, false, 0) := by
  unfold recQ recT
  rw [if_pos ex_check1, if_pos (by decide +kernel), show rowsOf [[1]] [] = [] from rfl, show targetP [[1]] = [1] from rfl, ex_comb0]
theorem ex_rec2 : recQ [[1, 1], [1, 2]] [5, 6] [⟨0, 13⟩, ⟨1, 16⟩] = (10, true, 0) := by
  unfold recQ recT
  rw [if_pos ex_check2, if_pos (by decide +kernel), show rowsOf [[1, 1], [1, 2]] [⟨0, 13⟩, ⟨1, 16⟩] = [[1, 1], [1, 2]] from rfl, show targetP [[1, 1], [1, 2]] = [1, 0] from rfl, ex_comb2]
  rfl
theorem ex_shares1 : sharesQ [[1]] [7] = [⟨0, 7⟩] := rfl
theorem ex_shares2 : sharesQ [[1, 1], [1, 2]] [10, 3] = [⟨0, 13⟩, ⟨1, 16⟩] := rfl
theorem ex_commit7 : commitQ 7 = 16384 := by decide +kernel
theorem ex_commit8 : commitQ 8 = 65536 := by decide +kernel
theorem ex_map7 : ([7] : List Int).map commitQ = [16384] := by rw [List.map_cons, List.map_nil, ex_commit7]
theorem ex_deal1 : dealQ [[1]] [4] 7 [] = ([⟨0, 7⟩], [16384], 0) := by
  rw [deal_good ex_check1 (by decide) (by decide) (by decide), ex_shares1, ex_map7]
theorem ex_deal2 : dealQ [[1, 1], [1, 2]] [5, 6] 10 [3] = ([⟨0, 13⟩, ⟨1, 16⟩], [10, 3].map commitQ, 0) := by
  rw [deal_good ex_check2 (by decide) (by decide) (by decide), ex_shares2]
theorem ex_fits (v : Int) (hv : inQ v = true) : fitsD [[1]] [4] [16384] 0 v = (commitQ v == 16384, 0) := by
  have := fits_dealt (s := [7]) ex_check1 rfl (i := 0) (by decide) hv
  rw [ex_map7] at this
  rw [show ((0 : Nat) : Int) = 0 from rfl] at this
  rw [this, show Sig.dot ([[1]].getD 0 []) [7] = 7 from rfl, ex_commit7]
theorem ex_fits7 : fitsD [[1]] [4] [16384] 0 7 = (true, 0) := by rw [ex_fits 7 (by decide), ex_commit7]; rfl
theorem ex_fits8 : fitsD [[1]] [4] [16384] 0 8 = (false, 0) := by rw [ex_fits 8 (by decide), ex_commit8]; rfl
theorem ex_pub1 : publicD [[1]] [4] [16384] 1 = (0, 1) := by
  have := check_dealt (s := [7]) ex_check1 rfl
  rw [ex_map7] at this
  unfold publicD
  rw [if_pos this, if_neg (by decide)]
theorem ex_pub2 : publicD [[1, 1], [1, 2]] [5, 6] [16384] 0 = (0, 340) := by
  have : checkD [[1, 1], [1, 2]] [5, 6] [16384] = 340 := by
    unfold checkD
    rw [if_pos ex_check2, if_neg (fun h => by have h1 := h.1; revert h1; decide)]
  unfold publicD
  rw [this, if_neg (by decide)]
end Go.Proofs.Ytdbamhckgaoibaa.P
namespace Go.Proofs.Ytdbamhckgaoibaa.P
open Go.RowKit Go.Proofs.YtdbamhckgaoibaaW.PrintWords Go.Proofs.YtdbamhckgaoibaaW.PrintLast Go.Proofs.YtdbamhckgaoibaaW.PrintMore
set_option linter.unusedVariables false
theorem one_p (W : World) : Calls Try.prog 81 #[] W fun e' w' => ∃ B0 d0 B1 d1, e' = .returned (.agg #[.slice B0 1 d0, .slice B1 1 d1]) ∧ Sl (Kd.slice 3 (Kd.int .i64)) w' B0 d0 [[1]] ∧ Sl (Kd.int .i64) w' B1 d1 [4] ∧ Below W.heap.size W w' := by
  refine (signatorylaw34_one.calls [[1]] [4] W rfl).mono ?_
  rintro e' w' ⟨v0, v1, rfl, g0, g1, hb⟩
  obtain ⟨B0, d0, rfl, s0⟩ := Sl.ofN g0
  obtain ⟨B1, d1, rfl, s1⟩ := Sl.ofR g1
  exact ⟨B0, d0, B1, d1, rfl, s0, s1, hb⟩
theorem same_p (k : Nat) {A0 A1 : Option Addr} {c0 c1 : Nat} {l m : List S38} {r : Bool} {W : World} (h0 : Sl k38 W A0 c0 l) (h1 : Sl k38 W A1 c1 m) (h : signatoryref34_Same.f k l m = some r) :
    Calls Try.prog 26 #[.slice A0 l.length c0, .slice A1 m.length c1] W fun e' w' => e' = .returned (.bool r) ∧ Below W.heap.size W w' :=
  (signatoryref34_Same.calls k A0 c0 l A1 c1 m r W h0.rd h0.le h1.rd h1.le h).mono fun _ _ h => ⟨h.1, h.2.below⟩
set_option maxRecDepth 100000 in
set_option maxHeartbeats 8000000 in
theorem sane34_c (w : World) : Calls Try.prog 20 #[] w fun e w' => e = .returned (.bool true) ∧ Below w.heap.size w w' := by
  go_enter Try.func20, Try.ntmps20
  go_wp2_with fail
  refine (one_p _).mono ?_
  rintro e w1 ⟨Ao, co, Bo, do_, rfl, ho, hp, hb⟩
  have HB := Aside0.mk hb
  have H_rows := Aside0.mk ho
  have H_own := Aside0.mk hp
  clear hb ho hp
  go_wp2_with fail
  refine (deal_p H_rows.out H_own.out (Sl.none_ _ _) ex_deal1).mono ?_
  rintro e w2 ⟨As, cs, Ac, cc, rfl, h1, h2, hb⟩
  clear H_rows
  clear H_own
  replace HB := Aside0.mk (below_then HB.out HB.out.size hb)
  have H_l := Aside0.mk h1
  have H_cm := Aside0.mk h2
  clear hb h1 h2
  go_wp2_with fail
  refine (one_p _).mono ?_
  rintro e w3 ⟨Ao, co, Bo, do_, rfl, ho, hp, hb⟩
  replace H_l := Aside0.mk (H_l.out.below hb)
  replace H_cm := Aside0.mk (H_cm.out.below hb)
  replace HB := Aside0.mk (below_then HB.out HB.out.size hb)
  have H_rows := Aside0.mk ho
  have H_own := Aside0.mk hp
  clear hb ho hp
  go_wp2_with fail
  refine (deal_p H_rows.out H_own.out (Sl.none_ _ _) (deal_odd ex_check1 (by decide))).mono ?_
  rintro e w4 ⟨_, _, _, _, rfl, _, _, hb⟩
  replace H_l := Aside0.mk (H_l.out.below hb)
  replace H_cm := Aside0.mk (H_cm.out.below hb)
  clear H_rows
  clear H_own
  replace HB := Aside0.mk (below_then HB.out HB.out.size hb)
  clear hb
  go_wp2_with fail
  refine (one_p _).mono ?_
  rintro e w5 ⟨Ao, co, Bo, do_, rfl, ho, hp, hb⟩
  replace H_l := Aside0.mk (H_l.out.below hb)
  replace H_cm := Aside0.mk (H_cm.out.below hb)
  replace HB := Aside0.mk (below_then HB.out HB.out.size hb)
  have H_rows := Aside0.mk ho
  have H_own := Aside0.mk hp
  clear hb ho hp
  go_wp2_with fail
  obtain ⟨w6, hw⟩ : ∃ W_, W_ = w5.alloc (.cells #[.int .i64 0, .int .i64 7] 38) := ⟨_, rfl⟩
  rw [← hw]
  have hb : Below w5.heap.size w5 w6 := by rw [hw]; exact below_alloc1 _ _
  have hz : w5.heap.size = w5.heap.size := rfl
  have hs : w6.heap.size = w5.heap.size + 1 := by rw [hw, ← hz]; simp
  have hl : Sl k38 w6 (some ⟨w5.heap.size, 0, none⟩) 1 [⟨0, 7⟩] := by rw [hw, ← hz]; exact Sl.shares w5 38 [⟨0, 7⟩] (by decide)
  replace H_l := Aside0.mk (H_l.out.below hb)
  replace H_cm := Aside0.mk (H_cm.out.below hb)
  replace H_rows := Aside0.mk (H_rows.out.below hb)
  replace H_own := Aside0.mk (H_own.out.below hb)
  replace HB := Aside0.mk (below_then HB.out HB.out.size hb)
  have H_s1 := Aside0.mk hl; clear hl
  clear hw hb hz
  have HZ := Aside0.mk hs; clear hs
  refine (recover_p H_rows.out H_own.out H_s1.out ex_rec1).mono ?_
  rintro e w7 ⟨rfl, hb⟩
  replace H_l := Aside0.mk (H_l.out.below hb)
  replace H_cm := Aside0.mk (H_cm.out.below hb)
  clear H_rows
  clear H_own
  clear H_s1
  replace HB := Aside0.mk (below_then HB.out HB.out.size hb)
  clear hb
  go_wp2_with fail
  refine (one_p _).mono ?_
  rintro e w8 ⟨Ao, co, Bo, do_, rfl, ho, hp, hb⟩
  replace H_l := Aside0.mk (H_l.out.below hb)
  replace H_cm := Aside0.mk (H_cm.out.below hb)
  replace HB := Aside0.mk (below_then HB.out HB.out.size hb)
  have H_rows := Aside0.mk ho
  have H_own := Aside0.mk hp
  clear hb ho hp
  go_wp2_with fail
  refine (recover_p H_rows.out H_own.out (Sl.none_ _ _) ex_rec0).mono ?_
  rintro e w9 ⟨rfl, hb⟩
  replace H_l := Aside0.mk (H_l.out.below hb)
  replace H_cm := Aside0.mk (H_cm.out.below hb)
  clear H_rows
  clear H_own
  replace HB := Aside0.mk (below_then HB.out HB.out.size hb)
  clear hb
  go_wp2_with fail
  obtain ⟨w10, hw⟩ : ∃ W_, W_ = w9.alloc (.cells #[.int .i64 0, .int .i64 7] 38) := ⟨_, rfl⟩
  rw [← hw]
  have hb : Below w9.heap.size w9 w10 := by rw [hw]; exact below_alloc1 _ _
  have hz : w9.heap.size = w9.heap.size := rfl
  have hs : w10.heap.size = w9.heap.size + 1 := by rw [hw, ← hz]; simp
  have hl : Sl k38 w10 (some ⟨w9.heap.size, 0, none⟩) 1 [⟨0, 7⟩] := by rw [hw, ← hz]; exact Sl.shares w9 38 [⟨0, 7⟩] (by decide)
  replace H_l := Aside0.mk (H_l.out.below hb)
  replace H_cm := Aside0.mk (H_cm.out.below hb)
  replace HB := Aside0.mk (below_then HB.out HB.out.size hb)
  have H_s1 := Aside0.mk hl; clear hl
  clear hw hb hz
  have HZ := Aside0.mk hs; clear hs
  refine (same_p 300 H_l.out H_s1.out (same_math _ _ (by decide) 300 (by decide))).mono ?_
  rintro e w11 ⟨rfl, hb⟩
  clear H_l
  replace H_cm := Aside0.mk (H_cm.out.below hb)
  clear H_s1
  replace HB := Aside0.mk (below_then HB.out HB.out.size hb)
  clear hb
  go_wp2_with fail
  refine (group_Pow.calls 4 7 _ _ _ (pow_four 7)).mono ?_
  rintro e w12 ⟨rfl, hb⟩
  replace H_cm := Aside0.mk (H_cm.out.below hb)
  replace HB := Aside0.mk (below_then HB.out HB.out.size hb)
  clear hb
  go_wp2_with fail
  refine (one_p _).mono ?_
  rintro e w13 ⟨Ao, co, Bo, do_, rfl, ho, hp, hb⟩
  replace H_cm := Aside0.mk (H_cm.out.below hb)
  replace HB := Aside0.mk (below_then HB.out HB.out.size hb)
  have H_rows := Aside0.mk ho
  have H_own := Aside0.mk hp
  clear hb ho hp
  go_wp2_with fail
  refine (fits_p H_rows.out H_own.out H_cm.out ex_fits7).mono ?_
  rintro e w14 ⟨rfl, hb⟩
  replace H_cm := Aside0.mk (H_cm.out.below hb)
  clear H_rows
  clear H_own
  replace HB := Aside0.mk (below_then HB.out HB.out.size hb)
  clear hb
  go_wp2_with fail
  refine (one_p _).mono ?_
  rintro e w15 ⟨Ao, co, Bo, do_, rfl, ho, hp, hb⟩
  replace H_cm := Aside0.mk (H_cm.out.below hb)
  replace HB := Aside0.mk (below_then HB.out HB.out.size hb)
  have H_rows := Aside0.mk ho
  have H_own := Aside0.mk hp
  clear hb ho hp
  go_wp2_with fail
  refine (fits_p H_rows.out H_own.out H_cm.out ex_fits8).mono ?_
  rintro e w16 ⟨rfl, hb⟩
  replace H_cm := Aside0.mk (H_cm.out.below hb)
  clear H_rows
  clear H_own
  replace HB := Aside0.mk (below_then HB.out HB.out.size hb)
  clear hb
  go_wp2_with fail
  obtain ⟨w17, hw⟩ : ∃ W_, W_ = w16.alloc (.cells #[.int .i64 1, .int .i64 1] 3) := ⟨_, rfl⟩
  rw [← hw]
  have hb : Below w16.heap.size w16 w17 := by rw [hw]; exact below_alloc1 _ _
  have hz : w16.heap.size = w16.heap.size := rfl
  have hs : w17.heap.size = w16.heap.size + 1 := by rw [hw, ← hz]; simp
  have hl : Sl (Kd.int .i64) w17 (some ⟨w16.heap.size, 0, none⟩) 2 [1, 1] := by rw [hw, ← hz]; exact Sl.ints w16 3 [1, 1] (by decide)
  replace H_cm := Aside0.mk (H_cm.out.below hb)
  replace HB := Aside0.mk (below_then HB.out HB.out.size hb)
  have H_r1 := Aside0.mk hl; clear hl
  clear hw hb hz
  have HZ := Aside0.mk hs; clear hs
  obtain ⟨w18, hw⟩ : ∃ W_, W_ = w17.alloc (.cells #[.int .i64 1, .int .i64 2] 3) := ⟨_, rfl⟩
  rw [← hw]
  have hb : Below w17.heap.size w17 w18 := by rw [hw]; exact below_alloc1 _ _
  have hz : w17.heap.size = w16.heap.size + 1 := HZ.out
  have hs : w18.heap.size = w16.heap.size + 1 + 1 := by rw [hw, ← hz]; simp
  have hl : Sl (Kd.int .i64) w18 (some ⟨w16.heap.size + 1, 0, none⟩) 2 [1, 2] := by rw [hw, ← hz]; exact Sl.ints w17 3 [1, 2] (by decide)
  replace H_cm := Aside0.mk (H_cm.out.below hb)
  replace H_r1 := Aside0.mk (H_r1.out.below hb)
  replace HB := Aside0.mk (below_then HB.out HB.out.size hb)
  have H_r2 := Aside0.mk hl; clear hl
  clear hw hb hz
  have HZ := Aside0.mk hs; clear hs
  obtain ⟨w19, hw⟩ : ∃ W_, W_ = w18.alloc (.cells #[.slice (some ⟨w16.heap.size, 0, none⟩) 2 2, .slice (some ⟨w16.heap.size + 1, 0, none⟩) 2 2] 23) := ⟨_, rfl⟩
  rw [← hw]
  have hb : Below w18.heap.size w18 w19 := by rw [hw]; exact below_alloc1 _ _
  have hz : w18.heap.size = w16.heap.size + 1 + 1 := HZ.out
  have hs : w19.heap.size = w16.heap.size + 1 + 1 + 1 := by rw [hw, ← hz]; simp
  have hl : Sl (Kd.slice 3 (Kd.int .i64)) w19 (some ⟨w16.heap.size + 1 + 1, 0, none⟩) 2 [[1, 1], [1, 2]] := by rw [hw, ← hz]; exact Sl.rows w18 23 3 [.slice (some ⟨w16.heap.size, 0, none⟩) 2 2, .slice (some ⟨w16.heap.size + 1, 0, none⟩) 2 2] [[1, 1], [1, 2]] (.cons (SlAt.mk_ H_r1.out) (.cons (SlAt.mk_ H_r2.out) SlsAt.nil)) (by decide)
  replace H_cm := Aside0.mk (H_cm.out.below hb)
  replace H_r1 := Aside0.mk (H_r1.out.below hb)
  replace H_r2 := Aside0.mk (H_r2.out.below hb)
  replace HB := Aside0.mk (below_then HB.out HB.out.size hb)
  have H_rr := Aside0.mk hl; clear hl
  clear hw hb hz
  have HZ := Aside0.mk hs; clear hs
  obtain ⟨w20, hw⟩ : ∃ W_, W_ = w19.alloc (.cells #[.int .i64 5, .int .i64 6] 3) := ⟨_, rfl⟩
  rw [← hw]
  have hb : Below w19.heap.size w19 w20 := by rw [hw]; exact below_alloc1 _ _
  have hz : w19.heap.size = w16.heap.size + 1 + 1 + 1 := HZ.out
  have hs : w20.heap.size = w16.heap.size + 1 + 1 + 1 + 1 := by rw [hw, ← hz]; simp
  have hl : Sl (Kd.int .i64) w20 (some ⟨w16.heap.size + 1 + 1 + 1, 0, none⟩) 2 [5, 6] := by rw [hw, ← hz]; exact Sl.ints w19 3 [5, 6] (by decide)
  replace H_cm := Aside0.mk (H_cm.out.below hb)
  replace H_r1 := Aside0.mk (H_r1.out.below hb)
  replace H_r2 := Aside0.mk (H_r2.out.below hb)
  replace H_rr := Aside0.mk (H_rr.out.below hb)
  replace HB := Aside0.mk (below_then HB.out HB.out.size hb)
  have H_oo := Aside0.mk hl; clear hl
  clear hw hb hz
  have HZ := Aside0.mk hs; clear hs
  obtain ⟨w21, hw⟩ : ∃ W_, W_ = w20.alloc (.cells #[.slice (some ⟨w16.heap.size + 1 + 1, 0, none⟩) 2 2, .slice (some ⟨w16.heap.size + 1 + 1 + 1, 0, none⟩) 2 2] 25) := ⟨_, rfl⟩
  rw [← hw]
  have hb : Below w20.heap.size w20 w21 := by rw [hw]; exact below_alloc1 _ _
  have hz : w20.heap.size = w16.heap.size + 1 + 1 + 1 + 1 := HZ.out
  have hs : w21.heap.size = w16.heap.size + 1 + 1 + 1 + 1 + 1 := by rw [hw, ← hz]; simp
  replace H_cm := Aside0.mk (H_cm.out.below hb)
  replace H_r1 := Aside0.mk (H_r1.out.below hb)
  replace H_r2 := Aside0.mk (H_r2.out.below hb)
  replace H_rr := Aside0.mk (H_rr.out.below hb)
  replace H_oo := Aside0.mk (H_oo.out.below hb)
  replace HB := Aside0.mk (below_then HB.out HB.out.size hb)
  have H_two0 := Aside0.mk (⟨by rw [hw, ← hz]; simp only [World.cell?]; rw [World.alloc_heap_new]; rfl, by rw [hs]; omega⟩ : w21.cell? ⟨w16.heap.size + 1 + 1 + 1 + 1, 0, none⟩ = some (.slice (some ⟨w16.heap.size + 1 + 1, 0, none⟩) 2 2) ∧ w16.heap.size + 1 + 1 + 1 + 1 < w21.heap.size)
  have H_two1 := Aside0.mk (⟨by rw [hw, ← hz]; simp only [World.cell?]; rw [World.alloc_heap_new]; rfl, by rw [hs]; omega⟩ : w21.cell? ⟨w16.heap.size + 1 + 1 + 1 + 1, 1, none⟩ = some (.slice (some ⟨w16.heap.size + 1 + 1 + 1, 0, none⟩) 2 2) ∧ w16.heap.size + 1 + 1 + 1 + 1 < w21.heap.size)
  clear hw hb hz
  have HZ := Aside0.mk hs; clear hs
  obtain ⟨w22, hw⟩ : ∃ W_, W_ = w21.alloc (.cells #[.int .i64 3] 3) := ⟨_, rfl⟩
  rw [← hw]
  have hb : Below w21.heap.size w21 w22 := by rw [hw]; exact below_alloc1 _ _
  have hz : w21.heap.size = w16.heap.size + 1 + 1 + 1 + 1 + 1 := HZ.out
  have hs : w22.heap.size = w16.heap.size + 1 + 1 + 1 + 1 + 1 + 1 := by rw [hw, ← hz]; simp
  have hl : Sl (Kd.int .i64) w22 (some ⟨w16.heap.size + 1 + 1 + 1 + 1 + 1, 0, none⟩) 1 [3] := by rw [hw, ← hz]; exact Sl.ints w21 3 [3] (by decide)
  replace H_cm := Aside0.mk (H_cm.out.below hb)
  replace H_r1 := Aside0.mk (H_r1.out.below hb)
  replace H_r2 := Aside0.mk (H_r2.out.below hb)
  replace H_rr := Aside0.mk (H_rr.out.below hb)
  replace H_oo := Aside0.mk (H_oo.out.below hb)
  replace H_two0 := Aside0.mk (cell_on H_two0.out hb)
  replace H_two1 := Aside0.mk (cell_on H_two1.out hb)
  replace HB := Aside0.mk (below_then HB.out HB.out.size hb)
  have H_n3 := Aside0.mk hl; clear hl
  clear hw hb hz
  have HZ := Aside0.mk hs; clear hs
  refine (deal_p H_rr.out H_oo.out H_n3.out ex_deal2).mono ?_
  rintro e w23 ⟨Ab, cb, _, _, rfl, h1, _, hb⟩
  replace H_cm := Aside0.mk (H_cm.out.below hb)
  clear H_r1
  clear H_r2
  replace H_rr := Aside0.mk (H_rr.out.below hb)
  replace H_oo := Aside0.mk (H_oo.out.below hb)
  replace H_two0 := Aside0.mk (cell_on H_two0.out hb)
  replace H_two1 := Aside0.mk (cell_on H_two1.out hb)
  clear H_n3
  replace HB := Aside0.mk (below_then HB.out HB.out.size hb)
  have H_both := Aside0.mk h1
  clear hb h1
  have x_two0 := H_two0.out.1
  have x_two1 := H_two1.out.1
  go_wp2_with fail
  clear x_two0 x_two1
  refine (recover_p H_rr.out H_oo.out H_both.out ex_rec2).mono ?_
  rintro e w24 ⟨rfl, hb⟩
  replace H_cm := Aside0.mk (H_cm.out.below hb)
  replace H_rr := Aside0.mk (H_rr.out.below hb)
  replace H_oo := Aside0.mk (H_oo.out.below hb)
  replace H_two0 := Aside0.mk (cell_on H_two0.out hb)
  replace H_two1 := Aside0.mk (cell_on H_two1.out hb)
  replace H_both := Aside0.mk (H_both.out.below hb)
  replace HB := Aside0.mk (below_then HB.out HB.out.size hb)
  clear hb
  have x_two0 := H_two0.out.1
  have x_two1 := H_two1.out.1
  go_wp2_with fail
  clear x_two0 x_two1
  refine (public_p H_rr.out H_oo.out H_cm.out ex_pub2).mono ?_
  rintro e w25 ⟨rfl, hb⟩
  replace H_cm := Aside0.mk (H_cm.out.below hb)
  clear H_rr
  clear H_oo
  clear H_two0
  clear H_two1
  replace H_both := Aside0.mk (H_both.out.below hb)
  replace HB := Aside0.mk (below_then HB.out HB.out.size hb)
  clear hb
  go_wp2_with fail
  refine (one_p _).mono ?_
  rintro e w26 ⟨Ao, co, Bo, do_, rfl, ho, hp, hb⟩
  replace H_cm := Aside0.mk (H_cm.out.below hb)
  replace H_both := Aside0.mk (H_both.out.below hb)
  replace HB := Aside0.mk (below_then HB.out HB.out.size hb)
  have H_rows := Aside0.mk ho
  have H_own := Aside0.mk hp
  clear hb ho hp
  go_wp2_with fail
  refine (public_p H_rows.out H_own.out H_cm.out ex_pub1).mono ?_
  rintro e w27 ⟨rfl, hb⟩
  replace H_cm := Aside0.mk (H_cm.out.below hb)
  replace H_both := Aside0.mk (H_both.out.below hb)
  clear H_rows
  clear H_own
  replace HB := Aside0.mk (below_then HB.out HB.out.size hb)
  clear hb
  obtain ⟨ad, e, hx⟩ := Kd.at_int H_cm.out.rd 0 (by decide) (by decide)
  cases e
  have hx : w27.cell? ad = some (.int .i64 16384) := hx
  go_wp2_with fail
  clear hx
  clear H_cm
  obtain ⟨w28, hw⟩ : ∃ W_, W_ = w27.alloc (.cells #[.int .i64 0, .int .i64 13, .int .i64 1, .int .i64 16] 38) := ⟨_, rfl⟩
  rw [← hw]
  have hb : Below w27.heap.size w27 w28 := by rw [hw]; exact below_alloc1 _ _
  have hz : w27.heap.size = w27.heap.size := rfl
  have hs : w28.heap.size = w27.heap.size + 1 := by rw [hw, ← hz]; simp
  have hl : Sl k38 w28 (some ⟨w27.heap.size, 0, none⟩) 2 [⟨0, 13⟩, ⟨1, 16⟩] := by rw [hw, ← hz]; exact Sl.shares w27 38 [⟨0, 13⟩, ⟨1, 16⟩] (by decide)
  replace H_both := Aside0.mk (H_both.out.below hb)
  replace HB := Aside0.mk (below_then HB.out HB.out.size hb)
  have H_s2 := Aside0.mk hl; clear hl
  clear hw hb hz
  have HZ := Aside0.mk hs; clear hs
  refine (same_p 300 H_both.out H_s2.out (same_math _ _ (by decide) 300 (by decide))).mono ?_
  rintro e w29 ⟨rfl, hb⟩
  clear H_both
  clear H_s2
  replace HB := Aside0.mk (below_then HB.out HB.out.size hb)
  clear hb
  go_wp2
  go_ret
  exact ⟨rfl, HB.out⟩
def signatorylaw34_sane.f : Option Bool := some true
theorem signatorylaw34_sane.calls (r : Bool) (w : World) (h : signatorylaw34_sane.f = some r) :
    Calls Try.prog 20 #[] w fun e w' => e = .returned (.bool r) ∧ Below w.heap.size w w' := by
  cases Option.some.inj h
  exact sane34_c w
end Go.Proofs.Ytdbamhckgaoibaa.P
namespace Go.Proofs.Ytdbamhckgaoibaa.P
open Go.RowKit Go.Proofs.YtdbamhckgaoibaaW.PrintWords Go.Proofs.YtdbamhckgaoibaaW.PrintLast Go.Proofs.YtdbamhckgaoibaaW.PrintMore
set_option linter.unusedVariables false
theorem people_snoc : ∀ {l : List Int} {last n : Int}, peopleOk last l = true → (∀ x ∈ l, x < n) → last < n → 0 ≤ n → n ≤ 63 → peopleOk last (l ++ [n]) = true
  | [], last, n, _, _, h1, h2, h3 => by
    rw [List.nil_append, peopleOk, peopleOk, decide_eq_true h1, decide_eq_true h2, decide_eq_true h3]; rfl
  | m :: l, last, n, h, hx, h1, h2, h3 => by
    unfold peopleOk at h
    simp only [Bool.and_eq_true, decide_eq_true_eq] at h
    rw [List.cons_append, peopleOk, decide_eq_true h.1.1.1, decide_eq_true h.1.1.2, decide_eq_true h.1.2, people_snoc h.2 (fun x hx2 => hx x (List.mem_cons_of_mem _ hx2)) (hx m List.mem_cons_self) h2 h3]; rfl
theorem people_l0 (x : Int) (k : Nat) : ∀ (d j : Nat) (acc : List Int), 64 - j = d → j ≤ 64 → acc.length ≤ j → peopleOk (-1) acc = true → (∀ x ∈ acc, x < (j : Int)) → ∃ who, signatorylaw34_people.l0 (k + d + 1) x acc (j : Int) = some who ∧ peopleOk (-1) who = true := by
  intro d
  induction d with
  | zero =>
    intro j acc hd hj hl hp hx
    refine ⟨acc, ?_, hp⟩
    rw [signatorylaw34_people.l0, if_neg (by omega)]
  | succ d ih =>
    intro j acc hd hj hl hp hx
    have h1 : (j : Int) < 64 := by omega
    have h2 : (0 : Int) ≤ (j : Int) := by omega
    have h3 : acc.length < 17592186044416 := by omega
    rw [signatorylaw34_people.l0, if_pos h1, if_pos h2, wrap_succ (by omega), ← Nat.add_assoc]
    split
    · (try rw [if_pos h3])
      refine ih (j + 1) (acc ++ [(j : Int)]) (by omega) (by omega) (by rw [List.length_append]; exact Nat.succ_le_succ hl) (people_snoc hp hx (by omega) h2 (by omega)) (fun y hy => ?_)
      rcases List.mem_append.1 hy with hy | hy
      · have := hx y hy; omega
      · rw [List.mem_singleton.1 hy]; omega
    · exact ih (j + 1) acc (by omega) (by omega) (by omega) hp (fun y hy => by have := hx y hy; omega)
theorem people_math (x : Int) (k : Nat) (hk : 100 ≤ k) : ∃ who, signatorylaw34_people.f k x = some who ∧ peopleOk (-1) who = true := by
  obtain ⟨k, rfl⟩ : ∃ k', k = k' + 64 + 1 := ⟨k - 65, by omega⟩
  exact people_l0 x k 64 0 [] (by omega) (by omega) (Nat.zero_le _) rfl (fun y hy => by cases hy)
def ofQ (owners who : List Int) (l : List S38) : List S38 := l.filter fun s => who.contains (owners.getD s.f0.toNat 0)
theorem ofQ_shares (rows : List (List Int)) (owners who s : List Int) : ofQ owners who (sharesQ rows s) = pickS rows s (ownIdx owners who rows.length) := by
  unfold ofQ sharesQ pickS ownIdx
  rw [List.filter_map]
  congr 1
theorem of_l1 (l : List S38) (owners who : List Int) (rows : List (List Int)) (acc : List S38) (i : Nat) (hi : i < l.length) (ow : Int) (hw : who.Pairwise (· < ·)) (hn : who.length < 1000000) (ha : acc.length < 1000000) (k : Nat) : ∀ (d j : Nat) (a : List S38), who.length - j = d → j ≤ who.length → a = acc →
    signatoryref34_Of.l1 (k + d + 1) l who a (i : Int) ow (j : Int) rows owners = signatoryref34_Of.l0 k l who (acc ++ if (who.drop j).contains ow = true then [l[i]] else []) (wrap64 ((i : Int) + 1)) rows owners := by
  have key : ∀ (d j : Nat) (a : List S38), who.length - j = d → j ≤ who.length → a.length < 1000001 → (a.length < 1000000 ∨ (who.drop j).contains ow = false) → signatoryref34_Of.l1 (k + d + 1) l who a (i : Int) ow (j : Int) rows owners = signatoryref34_Of.l0 k l who (a ++ if (who.drop j).contains ow = true then [l[i]] else []) (wrap64 ((i : Int) + 1)) rows owners := by
    intro d
    induction d with
    | zero =>
      intro j a hd hj ha2 hc
      obtain rfl : j = who.length := by omega
      rw [signatoryref34_Of.l1, if_neg (by omega), List.drop_length]
      simp
    | succ d ih =>
      intro j a hd hj ha2 hc
      have hlt : j < who.length := by omega
      have e1 : who.getD j 0 = who[j] := by rw [List.getD_eq_getElem?_getD, List.getElem?_eq_getElem hlt]; rfl
      have hdr := List.drop_eq_getElem_cons hlt
      have hx : who[j] = ow → (who.drop (j + 1)).contains ow = false := fun e => by
        rw [Bool.eq_false_iff]
        intro h
        rw [List.contains_iff_mem, List.mem_drop_iff_getElem] at h
        obtain ⟨q, hq, e2⟩ := h
        have := List.pairwise_iff_getElem.1 hw j (j + 1 + q) hlt (by omega) (by omega)
        rw [e, ← e2] at this
        omega
      have b1 : (j : Int) < (who.length : Int) := by omega
      have b2 : (0 : Int) ≤ (j : Int) := by omega
      have b3 : (0 : Int) ≤ (i : Int) := by omega
      have b4 : (i : Int) < (l.length : Int) := by omega
      have b5 : a.length < 8796093022208 := by omega
      rw [signatoryref34_Of.l1, if_pos b1, if_pos b2, rd_nat, e1, wrap_succ (by omega), ← Nat.add_assoc, hdr, List.contains_cons]
      by_cases h : who[j] = ow
      · have hl0 : a.length < 1000000 := by
          rcases hc with hc | hc
          · exact hc
          · rw [hdr, List.contains_cons, h, beq_self_eq_true] at hc; cases hc
        have hf := hx h
        rw [if_pos h, if_pos b3, if_pos b4, if_pos b5, ih (j + 1) _ (by omega) (by omega) (by rw [List.length_append]; exact Nat.succ_lt_succ hl0) (.inr hf), hf, h, beq_self_eq_true, Bool.true_or, if_pos rfl, if_neg (by decide), rdT_nat l i hi]
        simp
      · have hb : (ow == who[j]) = false := beq_eq_false_iff_ne.2 (fun e => h e.symm)
        rw [if_neg h, ih (j + 1) a (by omega) (by omega) ha2 (by
          rcases hc with hc | hc
          · exact .inl hc
          · rw [hdr, List.contains_cons, hb, Bool.false_or] at hc; exact .inr hc), hb, Bool.false_or]
  intro d j a hd hj hae
  subst hae
  exact key d j a hd hj (by omega) (.inl ha)
theorem of_l0 (l : List S38) (owners who : List Int) (rows : List (List Int)) (ho : ∀ s ∈ l, 0 ≤ s.f0 ∧ s.f0 < owners.length) (hw : who.Pairwise (· < ·)) (hn : who.length ≤ 64) (hl : l.length ≤ 100) : ∀ (d i : Nat) (acc : List S38) (k : Nat), l.length - i = d → i ≤ l.length → acc.length ≤ i → 70 * d + 1 ≤ k →
    signatoryref34_Of.l0 k l who acc (i : Int) rows owners = some (acc ++ ofQ owners who (l.drop i)) := by
  intro d
  induction d with
  | zero =>
    intro i acc k hd hi ha hk
    obtain rfl : i = l.length := by omega
    obtain ⟨k, rfl⟩ : ∃ k', k = k' + 1 := ⟨k - 1, by omega⟩
    rw [signatoryref34_Of.l0, if_neg (by omega), List.drop_length]
    unfold ofQ
    rw [List.filter_nil, List.append_nil]
  | succ d ih =>
    intro i acc k hd hi ha hk
    have hlt : i < l.length := by omega
    obtain ⟨h1, h2⟩ := ho _ (List.getElem_mem hlt)
    have b1 : (i : Int) < (l.length : Int) := by omega
    have b2 : (0 : Int) ≤ (i : Int) := by omega
    obtain ⟨k, rfl⟩ : ∃ k', k = k' + who.length + 1 + 1 := ⟨k - who.length - 2, by omega⟩
    have e := of_l1 l owners who rows acc i hlt (owners.getD l[i].f0.toNat 0) hw (by omega) (by omega) k who.length 0 acc (by omega) (by omega) rfl
    have e0 : rd owners l[i].f0 = owners.getD l[i].f0.toNat 0 := rfl
    rw [signatoryref34_Of.l0, if_pos b1, if_pos b2, rdT_nat l i hlt, if_pos h1, if_pos h2, e0]
    refine e.trans ?_
    rw [wrap_succ (by omega), List.drop_zero, ih (i + 1) _ k (by omega) (by omega) (by
      rw [List.length_append]
      split
      · exact Nat.succ_le_succ ha
      · simp only [List.length_nil]; omega) (by omega), List.append_assoc, List.drop_eq_getElem_cons hlt]
    unfold ofQ
    rw [List.filter_cons]
    split <;> simp
theorem of_math {rows : List (List Int)} {owners who s : List Int} (hc : checkP rows owners = 0) (hw : peopleOk (-1) who = true) (k : Nat) (hk : 5000 ≤ k) : signatoryref34_Of.f k rows owners (sharesQ rows s) who = some (pickS rows s (ownIdx owners who rows.length)) := by
  have h64 := (check_ok hc).few
  have hown := (check_ok hc).own
  have hwn : who.length ≤ 64 := by have := people_few hw (Int.le_refl _) (by decide); omega
  have := of_l0 (sharesQ rows s) owners who rows (fun x hx => by
    obtain ⟨i, hi, rfl⟩ := List.mem_map.1 hx
    have := List.mem_range.1 hi
    show 0 ≤ ((i : Nat) : Int) ∧ ((i : Nat) : Int) < owners.length
    omega) (people_lt hw) hwn (by rw [shares_len]; omega) rows.length 0 [] k (by rw [shares_len]; omega) (Nat.zero_le _) (Nat.le_refl _) (by omega)
  rw [List.drop_zero, List.nil_append, ofQ_shares] at this
  exact this
end Go.Proofs.Ytdbamhckgaoibaa.P
