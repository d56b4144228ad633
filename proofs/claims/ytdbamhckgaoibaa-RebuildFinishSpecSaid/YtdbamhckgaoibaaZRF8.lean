/- A part of the proof of RebuildFinishSpec: rebuild.helpers: the rows of helpers, in turn, up to an index that is none.; rebuild.Plan in plain words.; The sanity examples of chapter 40, reckoned.; The sanity function of chapter 40 returns true.; The calls of signatorylaw40.RebuildFinishSpec come to what their functions in Lean say.; RebuildFinishSpec holds. -/
import Derived.Test.YtdbamhckgaoibaaZRF7
namespace Go.Proofs.Ytdbamhckgaoibaa.P
open Go.RowKit Go.Proofs.YtdbamhckgaoibaaW.PrintWords Go.Proofs.YtdbamhckgaoibaaW.PrintLast Go.Proofs.YtdbamhckgaoibaaW.PrintMore
attribute [local go_sem] Oper.semAt_some
set_option linter.unusedVariables false
set_option linter.unusedSimpArgs false
def helpRows (n : Nat) (row : Int) : Int → List Int → List Nat
  | _, [] => []
  | last, r :: l => if last < r ∧ r < n ∧ r ≠ row then r.toNat :: helpRows n row r l else []
theorem helpRows_le (n : Nat) (row : Int) : ∀ (l : List Int) (last : Int), (helpRows n row last l).length ≤ l.length
  | [], _ => Nat.le_refl _
  | r :: l, last => by
    unfold helpRows
    split
    · rw [List.length_cons, List.length_cons]; have := helpRows_le n row l r; omega
    · exact Nat.zero_le _
theorem drop_cons_get {α : Type} {l m : List α} {a : α} {k : Nat} (h : l.drop k = a :: m) : l[k]? = some a ∧ l.drop (k + 1) = m ∧ k < l.length := by
  have hk : k < l.length := by
    refine Nat.lt_of_not_le fun hle => ?_
    rw [List.drop_of_length_le hle] at h
    cases h
  rw [List.drop_eq_getElem_cons hk] at h
  injection h with h1 h2
  exact ⟨by rw [List.getElem?_eq_getElem hk, h1], h2, hk⟩
theorem drop_nil_len {α : Type} {l : List α} {k : Nat} (h : l.drop k = []) (hk : k ≤ l.length) : k = l.length := by
  have := congrArg List.length h
  rw [List.length_drop, List.length_nil] at this
  omega
set_option maxRecDepth 100000 in
set_option maxHeartbeats 4000000 in
theorem helpers1_it (w : World) (bs bp br : Nat) (As : Option Addr) (cs : Nat) (idx : List Int) (Ap : Option Addr) (adr : Addr) (cp : Nat) (rows : List (List Int)) (row : Int)
    (h1 : w.cell? ⟨bs, 0, none⟩ = some (.slice As idx.length cs)) (h2 : w.cell? ⟨bp, 0, none⟩ = some (.slice Ap rows.length cp)) (h3 : w.cell? ⟨br, 0, none⟩ = some (.int .i64 row)) (hadr : 0 < rows.length → Ap = some adr)
    (hs : Kd.C (Kd.int .i64) w As idx.length idx) (hr : Kd.C (Kd.slice 3 (Kd.int .i64)) w Ap rows.length rows) :
    IterC 179 #[.pointer (some ⟨bs, 0, none⟩), .pointer (some ⟨bp, 0, none⟩), .pointer (some ⟨br, 0, none⟩)] w ((helpRows rows.length row (-1) idx).map fun i => (w.cell? (adr.add i)).getD undef) := by
  intro l W1 J hJB hJS hY hj0
  have hlen : idx.length ≤ 9223372036854775807 := hs.2.1
  have hb1 := World.block_lt_of_cell? w _ h1
  have HS := Aside0.mk hs
  have HR := Aside0.mk hr
  have HJS := Aside0.mk hJS
  have HJB := Aside0.mk hJB
  have HH1 := Aside0.mk h1
  have HH2 := Aside0.mk h2
  have HH3 := Aside0.mk h3
  have HAD := Aside0.mk hadr
  have e1 := ((hJB 0 W1 hj0).cell (p := ⟨bs, 0, none⟩) hb1).trans h1
  rw [List.length_map]
  generalize hacc : helpRows rows.length row (-1) idx = acc at hY ⊢
  have HACC := Aside0.mk hacc
  have HAL := Aside0.mk (show acc.length ≤ idx.length by rw [← hacc]; exact helpRows_le _ _ _ _)
  have HY := Aside0.mk hY
  clear hs hr hJS h1 h2 h3 hJB hadr hacc hY
  refine callsIn_of_wp Try.func179 rfl trivial ?_ rfl
  simp only [Try.ntmps179, List.size_toArray, List.length_cons, List.length_nil, Nat.reduceAdd, Nat.reduceSub, Array.replicate_succ, Array.replicate_zero, List.push_toArray, List.append_toArray, List.nil_append, List.cons_append]
  gi_wp2
  clear e1
  gi_loopg [5, 10] idx.length (fun gk v5 v10 wr => ∃ (k : Nat) (last : Int), k ≤ acc.length ∧ gk = idx.length - k ∧ v10 = .int .i64 (k : Int) ∧ v5 = .int .i64 last ∧ Aside0 (-1 ≤ last ∧ helpRows rows.length row last (idx.drop k) = acc.drop k ∧ J k wr))
  case atStart => exact ⟨0, -1, Nat.zero_le _, rfl, rfl, rfl, ⟨Int.le_refl _, by rw [List.drop_zero, List.drop_zero]; exact HACC.out, hj0⟩⟩
  case round =>
    clear hj0
    obtain ⟨k, last, hk, rfl, rfl, rfl, HX⟩ := hrel
    have hka := HAL.out
    by_cases hlt : k < idx.length
    · have c1 : decide ((k : Int) < (idx.length : Int)) = true := decide_eq_true (by omega)
      have c2 : decide (k < idx.length) = true := decide_eq_true hlt
      have c3 : (0 : Int) ≤ (k : Int) := by omega
      have hB := HJB.out k wr HX.out.2.2
      obtain ⟨ads, ea, x1⟩ := Kd.at_int HS.out (k : Int) (by omega) (by omega)
      cases ea
      rw [rd_nat, Int.toNat_natCast] at x1
      replace x1 := (hB.cell (World.block_lt_of_cell? w _ x1)).trans x1
      have hdr : idx.drop k = idx.getD k 0 :: idx.drop (k + 1) := by
        rw [List.getD_eq_getElem?_getD, List.getElem?_eq_getElem hlt]; exact List.drop_eq_getElem_cons hlt
      have hst := HX.out.2.1
      rw [hdr, helpRows] at hst
      have z2 := (hB.cell (World.block_lt_of_cell? w _ HH2.out)).trans HH2.out
      have z3 := (hB.cell (World.block_lt_of_cell? w _ HH3.out)).trans HH3.out
      generalize idx.getD k 0 = r at x1 hst
      have hl1 := HX.out.1
      have HST := Aside0.mk hst
      have HBB := Aside0.mk hB
      have HJ := Aside0.mk HX.out.2.2
      clear hdr hst hB HX
      by_cases g1 : r ≤ last
      · have d1 : decide (r ≤ last) = true := decide_eq_true g1
        have hend : k = acc.length := by
          have h_ := HST.out
          rw [if_neg (fun q => by have := q.1; omega)] at h_
          exact drop_nil_len h_.symm hk
        have HE := Aside0.mk hend
        clear hend g1 hl1
        gi_wp2
        refine ⟨(fun _ h => by cases h), ?_⟩
        go_at_K
        gi_wp2
        all_goals (refine bodyPost_ret (results_none rfl _ _ _) rfl ?_; exact ⟨⟨_, rfl⟩, by rw [← HE.out]; exact HJ.out⟩)
      · have d1 : decide (r ≤ last) = false := decide_eq_false g1
        obtain ⟨i, rfl⟩ : ∃ i : Nat, r = (i : Int) := ⟨r.toNat, by omega⟩
        by_cases g2 : i < rows.length
        · have d2 : decide (rows.length ≤ i) = false := decide_eq_false (by omega)
          by_cases g3 : (i : Int) = row
          · have d3 : ((i : Int) == row) = true := beq_iff_eq.mpr g3
            have hend : k = acc.length := by
              have h_ := HST.out
              rw [if_neg (fun q => q.2.2 g3)] at h_
              exact drop_nil_len h_.symm hk
            have HE := Aside0.mk hend
            clear hend g1 hl1 g3
            gi_wp2
            refine ⟨(fun _ h => by cases h), ?_⟩
            go_at_K
            gi_wp2
            all_goals (refine bodyPost_ret (results_none rfl _ _ _) rfl ?_; exact ⟨⟨_, rfl⟩, by rw [← HE.out]; exact HJ.out⟩)
          · have d3 : ((i : Int) == row) = false := beq_eq_false_iff_ne.mpr g3
            have hok : last < (i : Int) ∧ (i : Int) < rows.length ∧ (i : Int) ≠ row := ⟨by omega, by omega, g3⟩
            have h_ := HST.out
            rw [if_pos hok, Int.toNat_natCast] at h_
            obtain ⟨a1, a2, a3⟩ := drop_cons_get h_.symm
            have hAp := HAD.out (by omega)
            subst hAp
            obtain ⟨adr', Ar, cr, er, y1, y2, y3⟩ := at_L1 HR.out (i : Int) (by omega) (by omega)
            obtain rfl : adr = adr' := by injection er
            rw [rd_L1_nat, Int.toNat_natCast] at y1
            have hv : (acc.map fun i => (w.cell? (adr.add i)).getD undef)[k]? = some (.slice Ar (rows.getD i []).length cr) := by
              rw [List.getElem?_map, a1]; simp [y1]
            have hyk := HY.out k
            generalize (acc.map fun i => (w.cell? (adr.add i)).getD undef)[k]? = ov at hv hyk
            have HYK := Aside0.mk (fun W h => hyk W _ hv h)
            generalize (rows.getD i []).length = rn at y1 HYK
            replace y1 := (HBB.out.cell (World.block_lt_of_cell? w _ y1)).trans y1
            have c4 : (0 : Int) ≤ (i : Int) := by omega
            have c5 : (i : Int) < (rows.length : Int) := by omega
            have c6 : decide (i < rows.length) = true := decide_eq_true g2
            have HN := Aside0.mk (And.intro a2 (And.intro hok.1 a3))
            obtain ⟨fn, tmps, assign, body, hy, hR⟩ := HYK.out _ HJ.out
            clear hv hyk y2 y3 h_ a1 a2 a3 hok er g3 g1
            gi_wp2
            refine hR.mono ?_
            rintro e W' ⟨rfl, hj2⟩
            have HJ2 := Aside0.mk hj2
            clear hj2 y1 z2 z3 x1
            gi_wp2
            gi_roundg (idx.length - (k + 1))
            case measure => omega
            case rel =>
              exact ⟨k + 1, (i : Int), HN.out.2.2, rfl, by first | rfl | rw [wrap_nextB (by omega)], rfl, ⟨by omega, HN.out.1.symm, HJ2.out⟩⟩
        · have d2 : decide (rows.length ≤ i) = true := decide_eq_true (by omega)
          have hend : k = acc.length := by
            have h_ := HST.out
            rw [if_neg (fun q => by have := q.2.1; omega)] at h_
            exact drop_nil_len h_.symm hk
          have HE := Aside0.mk hend
          clear hend g1 hl1
          gi_wp2
          refine ⟨(fun _ h => by cases h), ?_⟩
          go_at_K
          gi_wp2
          all_goals (refine bodyPost_ret (results_none rfl _ _ _) rfl ?_; exact ⟨⟨_, rfl⟩, by rw [← HE.out]; exact HJ.out⟩)
    · have hki : k = idx.length := by omega
      have hend : k = acc.length := by omega
      have c1 : decide ((k : Int) < (idx.length : Int)) = false := decide_eq_false (by omega)
      have HE := Aside0.mk hend
      have HJ := Aside0.mk HX.out.2.2
      clear hend hki
      gi_wp2
      go_end0
      exact ⟨⟨_, rfl⟩, by rw [← HE.out]; exact HJ.out⟩
theorem helpers_c (A0 A1 As : Option Addr) (n0 c0 n1 c1 ns cs : Nat) (row : Int) (w : World) : Calls Try.prog 110 #[.agg #[.slice A0 n0 c0, .slice A1 n1 c1], .int .i64 row, .slice As ns cs] w fun e w' =>
    e = .returned (.func (.func 179) #[] #[.pointer (some ⟨w.heap.size + 1 + 1, 0, none⟩), .pointer (some ⟨w.heap.size, 0, none⟩), .pointer (some ⟨w.heap.size + 1, 0, none⟩)]) ∧ w' = ((w.alloc (.cells #[.slice A0 n0 c0, .slice A1 n1 c1] 25)).alloc (.cells #[.int .i64 row] 3)).alloc (.cells #[.slice As ns cs] 23) := by
  have hmf : ∀ (fn : Fn) (first cap : Array Value) (w : World), (Instr.makeFunc fn first cap).run Try.prog w = .ok (.func fn first cap) w := fun _ _ _ _ => rfl
  go_enter Try.func110, Try.ntmps110
  go_wp2
  go_ret
  exact ⟨by first | rfl | (simp; done) | (simp; rfl), rfl⟩
end Go.Proofs.Ytdbamhckgaoibaa.P
namespace Go.Proofs.Ytdbamhckgaoibaa.P
open Go.RowKit Go.Proofs.YtdbamhckgaoibaaW.PrintWords Go.Proofs.YtdbamhckgaoibaaW.PrintLast Go.Proofs.YtdbamhckgaoibaaW.PrintMore
set_option linter.unusedVariables false
def planT (rows : List (List Int)) (row : Nat) (idx : List Nat) : List Int × Bool × Int :=
  match Sig.combine (idx.map fun i => rows.getD i []) (rows.getD row []) with
  | some y => (y, true, 0)
  | none => ([], false, 0)
def planQ (rows : List (List Int)) (owners : List Int) (row : Int) (idx : List Int) : List Int × Bool × Int :=
  if checkP rows owners = 0 then (if 0 ≤ row ∧ row < rows.length then (if (helpRows rows.length row (-1) idx).length = idx.length then planT rows row.toNat (helpRows rows.length row (-1) idx) else ([], false, 1)) else ([], false, 1)) else ([], false, checkP rows owners)
theorem helpRows_lt (n : Nat) (row : Int) : ∀ (l : List Int) (last : Int), -1 ≤ last → ∀ i ∈ helpRows n row last l, i < n ∧ last < (i : Int)
  | [], _, _, i, h => by cases h
  | r :: l, last, hl, i, h => by
    unfold helpRows at h
    split at h
    · rename_i hc
      rcases List.mem_cons.1 h with rfl | h
      · omega
      · have := helpRows_lt n row l r (by omega) i h
        omega
    · cases h
theorem helpRows_count (n : Nat) (row : Int) : ∀ (l : List Int) (last : Int), -1 ≤ last → ((helpRows n row last l).length : Int) ≤ n - 1 - last ∨ helpRows n row last l = []
  | [], _, _ => .inr rfl
  | r :: l, last, hl => by
    unfold helpRows
    split
    · rename_i hc
      left
      rcases helpRows_count n row l r (by omega) with h | h
      · rw [List.length_cons]; omega
      · rw [h]; simp; omega
    · exact .inr rfl
theorem helpRows_few (n : Nat) (row : Int) (l : List Int) : (helpRows n row (-1) l).length ≤ n := by
  rcases helpRows_count n row l (-1) (Int.le_refl _) with h | h
  · omega
  · rw [h]; exact Nat.zero_le _
theorem plan_right {rows : List (List Int)} {owners : List Int} (hc : checkP rows owners = 0) {r : Nat} (hr : r < rows.length) {acc : List Nat} (ha : ∀ i ∈ acc, i < rows.length ∧ (-1 : Int) < (i : Int)) (hl : acc.length ≤ rows.length) :
    Sig.RectT (acc.map fun i => rows.getD i []) (rows.getD r []) ∧ (acc.map fun i => rows.getD i []).length ≤ 64 ∧ 0 < (rows.getD r []).length ∧ (rows.getD r []).length ≤ 64 := by
  have hP := check_ok hc
  have h1 := hP.row r hr
  refine ⟨⟨fun row hx => ?_, h1.2.2.2⟩, by rw [List.length_map]; have := hP.few; omega, by omega, h1.2.2.1⟩
  obtain ⟨i, hi, rfl⟩ := List.mem_map.1 hx
  have h2 := hP.row i (ha i hi).1
  exact ⟨h2.2.1.trans h1.2.1.symm, h2.2.2.2⟩
theorem three_first (w : World) (v0 v1 : Value) (o1 o2 : Obj) (t : TypeId) (v : Value) (h : v = v0) : (((w.alloc (.cells #[v0, v1] t)).alloc o1).alloc o2).cell? ⟨w.heap.size, 0, none⟩ = some v := by
  have h1 : (w.alloc (.cells #[v0, v1] t)).cell? ⟨w.heap.size, 0, none⟩ = some v := by simp only [World.cell?]; rw [World.alloc_heap_new, h]; rfl
  have h2 : Below (w.alloc (.cells #[v0, v1] t)).heap.size (w.alloc (.cells #[v0, v1] t)) (((w.alloc (.cells #[v0, v1] t)).alloc o1).alloc o2) := (below_alloc1 _ _).alloc (by simp) _
  exact (h2.cell (p := ⟨w.heap.size, 0, none⟩) (by simp)).trans h1
theorem three_second (w : World) (o : Obj) (v : Value) (t : TypeId) (o2 : Obj) : (((w.alloc o).alloc (.cells #[v] t)).alloc o2).cell? ⟨w.heap.size + 1, 0, none⟩ = some v := by
  have h1 : ((w.alloc o).alloc (.cells #[v] t)).cell? ⟨w.heap.size + 1, 0, none⟩ = some v := by
    have := (cell_new_l (w.alloc o) v t).1
    rwa [World.size_alloc] at this
  have h2 : Below ((w.alloc o).alloc (.cells #[v] t)).heap.size ((w.alloc o).alloc (.cells #[v] t)) (((w.alloc o).alloc (.cells #[v] t)).alloc o2) := below_alloc1 _ _
  exact (h2.cell (p := ⟨w.heap.size + 1, 0, none⟩) (by simp)).trans h1
theorem three_third (w : World) (o o1 : Obj) (v : Value) (t : TypeId) : (((w.alloc o).alloc o1).alloc (.cells #[v] t)).cell? ⟨w.heap.size + 1 + 1, 0, none⟩ = some v := by
  have := (cell_new_l ((w.alloc o).alloc o1) v t).1
  rwa [World.size_alloc, World.size_alloc] at this
set_option maxRecDepth 100000 in
set_option maxHeartbeats 8000000 in
theorem plan_w {A0 A1 A2 : Option Addr} {c0 c1 c2 : Nat} {rows : List (List Int)} {owners : List Int} {row : Int} {idx : List Int} {w : World} (h0 : Sl (Kd.slice 3 (Kd.int .i64)) w A0 c0 rows) (h1 : Sl (Kd.int .i64) w A1 c1 owners) (h2 : Sl (Kd.int .i64) w A2 c2 idx) :
    Calls Try.prog 40 #[.agg #[.slice A0 rows.length c0, .slice A1 owners.length c1], .int .i64 row, .slice A2 idx.length c2] w fun e w' => ∃ v0_ : Value, e = .returned (.tuple #[v0_, .bool (planQ rows owners row idx).2.1, .int .i64 (planQ rows owners row idx).2.2]) ∧
      Kd.R (Kd.int .i64) 3 w' w.heap.size (fun _ => True) v0_ (planQ rows owners row idx).1 ∧ Below w.heap.size w w' := by
  have H_rows := Aside0.mk h0
  have H_own := Aside0.mk h1
  have H_idx := Aside0.mk h2
  have HB := Aside0.mk (Below.refl w.heap.size w)
  clear h0 h1 h2
  obtain ⟨t, ht⟩ : ∃ t, t = checkP rows owners := ⟨_, rfl⟩
  have HK : Aside0 (∀ W, Sl (Kd.slice 3 (Kd.int .i64)) W A0 c0 rows → Sl (Kd.int .i64) W A1 c1 owners → Calls Try.prog 82 #[.agg #[.slice A0 rows.length c0, .slice A1 owners.length c1]] W fun e w' => e = .returned (.int .i64 t) ∧ Below W.heap.size W w') := ⟨fun W g0 g1 => by rw [ht]; exact program_Check.calls 66 A0 c0 rows A1 c1 owners _ W g0.rd g0.le g1.rd g1.le (check_math rows owners 66 (Nat.le_refl _))⟩
  rcases Decidable.em (t = 0) with h | h
  · skip
    have hd0 : checkP rows owners = 0 := ht.symm.trans h
    clear ht
    subst h
    by_cases g0 : 0 ≤ row
    · skip
      by_cases g1 : row < (rows.length : Int)
      · skip
        obtain ⟨r, hr⟩ : ∃ r : Nat, (r : Int) = row := ⟨row.toNat, by omega⟩
        subst hr
        have hpl : planQ rows owners (r : Int) idx = if (helpRows rows.length (r : Int) (-1) idx).length = idx.length then planT rows r (helpRows rows.length (r : Int) (-1) idx) else ([], false, 1) := by unfold planQ; rw [if_pos hd0, if_pos ⟨g0, g1⟩, Int.toNat_natCast]
        have n0 : decide ((r : Int) < 0) = false := decide_eq_false (by omega)
        have n1 : decide (rows.length ≤ r) = false := decide_eq_false (by omega)
        have n2 : decide (r < rows.length) = true := decide_eq_true (by omega)
        have hrl : r < rows.length := by omega
        have HPL := Aside0.mk hpl; have HRL := Aside0.mk hrl; have HD0 := Aside0.mk hd0; clear hpl hrl hd0 g0 g1
        go_enter Try.func40, Try.ntmps40
        go_wp2_with fail
        obtain ⟨w1, hw⟩ : ∃ W_, W_ = w.alloc (.cells #[.slice A0 rows.length c0, .slice A1 owners.length c1] 25) := ⟨_, rfl⟩
        rw [← hw]
        have hb : Below w.heap.size w w1 := by rw [hw]; exact below_alloc1 _ _
        have hz : w.heap.size = w.heap.size := rfl
        have hs : w1.heap.size = w.heap.size + 1 := by rw [hw, ← hz]; simp
        replace H_rows := Aside0.mk (H_rows.out.below hb)
        replace H_own := Aside0.mk (H_own.out.below hb)
        replace H_idx := Aside0.mk (H_idx.out.below hb)
        replace HB := Aside0.mk (below_then HB.out HB.out.size hb)
        have H_two0 := Aside0.mk (⟨by rw [hw, ← hz]; simp only [World.cell?]; rw [World.alloc_heap_new]; rfl, by rw [hs]; omega⟩ : w1.cell? ⟨w.heap.size, 0, none⟩ = some (.slice A0 rows.length c0) ∧ w.heap.size < w1.heap.size)
        have H_two1 := Aside0.mk (⟨by rw [hw, ← hz]; simp only [World.cell?]; rw [World.alloc_heap_new]; rfl, by rw [hs]; omega⟩ : w1.cell? ⟨w.heap.size, 1, none⟩ = some (.slice A1 owners.length c1) ∧ w.heap.size < w1.heap.size)
        clear hw hb hz
        have HZ := Aside0.mk hs; clear hs
        refine (HK.out _ H_rows.out H_own.out).mono ?_
        rintro e w2 ⟨rfl, hb⟩
        replace H_rows := Aside0.mk (H_rows.out.below hb)
        replace H_own := Aside0.mk (H_own.out.below hb)
        replace H_idx := Aside0.mk (H_idx.out.below hb)
        replace H_two0 := Aside0.mk (cell_on H_two0.out hb)
        replace H_two1 := Aside0.mk (cell_on H_two1.out hb)
        replace HB := Aside0.mk (below_then HB.out HB.out.size hb)
        clear hb
        have x_two0 := H_two0.out.1
        have x_two1 := H_two1.out.1
        go_wp2_with fail
        clear x_two0 x_two1
        refine (helpers_c _ _ _ _ _ _ _ _ _ _ _).mono ?_
        rintro e w3 ⟨rfl, hw⟩
        have hb : Below w2.heap.size w2 w3 := by rw [hw]; exact ((below_alloc1 _ _).alloc (by rw [World.size_alloc]; omega) _).alloc (by rw [World.size_alloc, World.size_alloc]; omega) _
        have i1 : w3.cell? ⟨w2.heap.size + 1 + 1, 0, none⟩ = some (.slice A2 idx.length c2) := by rw [hw]; exact three_third _ _ _ _ _
        have i2 : w3.cell? ⟨w2.heap.size, 0, none⟩ = some (.slice A0 rows.length c0) := by rw [hw]; exact three_first _ _ _ _ _ _ _ rfl
        have i3 : w3.cell? ⟨w2.heap.size + 1, 0, none⟩ = some (.int .i64 (r : Int)) := by rw [hw]; exact three_second _ _ _ _ _
        replace H_rows := Aside0.mk (H_rows.out.below hb)
        replace H_own := Aside0.mk (H_own.out.below hb)
        replace H_idx := Aside0.mk (H_idx.out.below hb)
        replace H_two0 := Aside0.mk (cell_on H_two0.out hb)
        replace H_two1 := Aside0.mk (cell_on H_two1.out hb)
        replace HB := Aside0.mk (below_then HB.out HB.out.size hb)
        have hadr : 0 < rows.length → A0 = some (A0.getD ⟨0, 0, none⟩) := fun h => by
          obtain ⟨ad, _, _, e, _⟩ := at_L1 H_rows.out.rd (0 : Int) (by omega) (by omega)
          rw [e]; rfl
        have HIT := Aside0.mk (helpers1_it w3 (w2.heap.size + 1 + 1) w2.heap.size (w2.heap.size + 1) A2 c2 idx A0 (A0.getD ⟨0, 0, none⟩) c0 rows (r : Int) i1 i2 i3 hadr H_idx.out.rd H_rows.out.rd)
        obtain ⟨acc, hacc⟩ : ∃ acc, acc = helpRows rows.length (r : Int) (-1) idx := ⟨_, rfl⟩
        rw [← hacc] at HIT HPL
        have hlt := helpRows_lt rows.length (r : Int) idx (-1) (Int.le_refl _)
        rw [← hacc] at hlt
        have hal : acc.length ≤ rows.length := by rw [hacc]; exact helpRows_few _ _ _
        have hr64 : rows.length ≤ 64 := (check_ok HD0.out).few
        obtain ⟨yv, hyv⟩ : ∃ yv, yv = acc.map fun i => (w3.cell? ((A0.getD ⟨0, 0, none⟩).add i)).getD undef := ⟨_, rfl⟩
        rw [← hyv] at HIT
        have hyat : ∀ i, i < (acc.map fun i => rows.getD i []).length → ∃ A c, yv[i]? = some (.slice A ((acc.map fun i => rows.getD i []).getD i []).length c) ∧ ((acc.map fun i => rows.getD i []).getD i []).length ≤ c ∧ Kd.C (Kd.int .i64) w3 A ((acc.map fun i => rows.getD i []).getD i []).length ((acc.map fun i => rows.getD i []).getD i []) := fun i hi => by
          rw [List.length_map] at hi
          have hb_ := hlt _ (List.getElem_mem hi)
          obtain ⟨ad, A, c, e, x1, x2, x3⟩ := at_L1 H_rows.out.rd (acc[i] : Int) (by omega) (by omega)
          have er : (acc.map fun i => rows.getD i []).getD i [] = rows.getD acc[i] [] := by rw [List.getD_eq_getElem?_getD, List.getElem?_map, List.getElem?_eq_getElem hi]; rfl
          rw [rd_L1_nat] at x1 x2 x3
          rw [Int.toNat_natCast] at x1
          rw [er]
          refine ⟨A, c, ?_, x2, x3⟩
          rw [hyv, List.getElem?_map, List.getElem?_eq_getElem hi]
          rw [show A0.getD ⟨0, 0, none⟩ = ad from by rw [e]; rfl]
          simp [x1]
        have hyl : yv.length = acc.length := by rw [hyv, List.length_map]
        have hysl : ∀ v ∈ yv, ∃ A n c, v = Value.slice A n c := fun v hv => by
          obtain ⟨i, hi, rfl⟩ := List.getElem_of_mem hv
          obtain ⟨A, c, h1, _⟩ := hyat i (by rw [List.length_map, ← hyl]; exact hi)
          rw [List.getElem?_eq_getElem hi] at h1
          injection h1 with h1
          exact ⟨A, _, c, h1⟩
        have HCL := Aside0.mk (collect_c (g := 179) (fun args w => enters_ Try.func179 (by kernel_rfl) rfl args w) HIT.out hysl (by omega))
        have HYA := Aside0.mk hyat; have HYL := Aside0.mk hyl; have HALN := Aside0.mk (And.intro hal hr64); have HLT := Aside0.mk hlt
        clear hw hb i1 i2 i3 hadr hacc hlt hyv hyat hysl hyl hal hr64 HIT
        go_wp2_with fail
        refine HCL.out.mono ?_
        rintro e w4 ⟨v6, rfl, ho, hb⟩
        have hcl : (acc.map fun i => rows.getD i []).length = acc.length := List.length_map _
        obtain ⟨A6, c6, e6, hc6, hC6⟩ := C_of_own (rows := acc.map fun i => rows.getD i []) ho (HYL.out.trans (List.length_map _).symm) (by rw [List.length_map]; have := HALN.out; omega) (fun i hi => by
          obtain ⟨A, c, x1, x2, x3⟩ := HYA.out i hi
          exact ⟨A, c, x1, x2, Kd.C_below x3 hb⟩)
        rw [hcl] at e6
        subst e6
        replace H_rows := Aside0.mk (H_rows.out.below hb)
        replace H_own := Aside0.mk (H_own.out.below hb)
        replace H_idx := Aside0.mk (H_idx.out.below hb)
        replace H_two0 := Aside0.mk (cell_on H_two0.out hb)
        replace H_two1 := Aside0.mk (cell_on H_two1.out hb)
        replace HB := Aside0.mk (below_then HB.out HB.out.size hb)
        have H_col := Aside0.mk (Sl.mk hc6 hC6)
        clear ho hb hc6 hC6 HCL HYA HYL
        by_cases hn : acc.length = idx.length
        · skip
          have HF : Aside0 (planQ rows owners (r : Int) idx = planT rows r acc) := ⟨by rw [HPL.out, if_pos hn]⟩
          have q1 : ((acc.length : Int) == (idx.length : Int)) = true := beq_iff_eq.mpr (by omega)
          have q2 : ((acc.length : Int) != (idx.length : Int)) = false := bne_eq_false_iff_eq.mpr (by omega)
          obtain ⟨ar, Ar, cr, e, z1, z2, z3⟩ := at_L1 H_rows.out.rd (r : Int) (by omega) (by have := HRL.out; omega)
          cases e
          rw [rd_L1_nat] at z1 z2 z3
          rw [Int.toNat_natCast] at z1
          have hpo := plan_right HD0.out HRL.out HLT.out HALN.out.1
          have HCB := combine_c A6 c6 (acc.map fun i => rows.getD i []) Ar cr (rows.getD r []) w4 H_col.out.rd H_col.out.le z3 z2 hpo.1 hpo.2.1 hpo.2.2.1 hpo.2.2.2
          rw [hcl] at HCB
          unfold CombPost at HCB
          have HCB := Aside0.mk HCB
          have HT : Aside0 (planT rows r acc = match Sig.combine (acc.map fun i => rows.getD i []) (rows.getD r []) with | some y => (y, true, 0) | none => ([], false, 0)) := ⟨rfl⟩
          clear z2 z3 hpo hn hcl
          generalize (rows.getD r []).length = rn at z1 HCB
          generalize acc.length = cn at q1 q2 HCB ⊢
          have x0 := H_two0.out.1
          have n3 : (0 : Int) ≤ (r : Int) := by omega
          have n4 : (r : Int) < (rows.length : Int) := by have := HRL.out; omega
          go_wp2_with fail
          refine HCB.out.mono ?_
          clear x0 z1
          cases hcmb : Sig.combine (acc.map fun i => rows.getD i []) (rows.getD r []) with
          | none =>
            rintro e w7 ⟨v7, rfl, hR7, hb7⟩
            rw [hcmb] at HT
            obtain ⟨A7, c7, rfl, _, _⟩ := Kd.R_reads hR7
            have HB7 := Aside0.mk (below_then HB.out HB.out.size hb7)
            have HR7 := Aside0.mk (Kd.R_lower hR7 HB.out.size)
            clear hR7 hb7 hcmb HCB q1 q2
            go_wp2
            go_ret3
            rw [HF.out, HT.out]
            exact ⟨_, rfl, Kd.R_mono HR7.out (fun _ _ => trivial), HB7.out⟩
          | some y =>
            rintro e w7 ⟨v7, rfl, hR7, hb7⟩
            rw [hcmb] at HT
            obtain ⟨A7, c7, rfl, _, _⟩ := Kd.R_reads hR7
            have HB7 := Aside0.mk (below_then HB.out HB.out.size hb7)
            have HR7 := Aside0.mk (Kd.R_lower hR7 HB.out.size)
            clear hR7 hb7 hcmb HCB q1 q2
            go_wp2
            go_ret3
            rw [HF.out, HT.out]
            exact ⟨_, rfl, Kd.R_mono HR7.out (fun _ _ => trivial), HB7.out⟩
        · skip
          have HF : Aside0 (planQ rows owners (r : Int) idx = ([], false, 1)) := ⟨by rw [HPL.out, if_neg hn]⟩
          have q1 : ((acc.length : Int) == (idx.length : Int)) = false := beq_eq_false_iff_ne.mpr (by omega)
          have q2 : ((acc.length : Int) != (idx.length : Int)) = true := bne_iff_ne.mpr (by omega)
          clear hcl
          generalize acc.length = cn at q1 q2 hn ⊢
          go_wp2
          go_ret3
          rw [HF.out]
          exact ⟨_, rfl, Kd.R_nil _ _ _ _ _, HB.out⟩
      · skip
        have HF : Aside0 (planQ rows owners row idx = ([], false, 1)) := ⟨by unfold planQ; rw [if_pos hd0, if_neg (fun q => g1 q.2)]⟩
        have n0 : decide (row < 0) = false := decide_eq_false (by omega)
        have n1 : decide ((rows.length : Int) ≤ row) = true := decide_eq_true (by omega)
        clear g0 g1 hd0
        go_enter Try.func40, Try.ntmps40
        go_wp2_with fail
        obtain ⟨w1, hw⟩ : ∃ W_, W_ = w.alloc (.cells #[.slice A0 rows.length c0, .slice A1 owners.length c1] 25) := ⟨_, rfl⟩
        rw [← hw]
        have hb : Below w.heap.size w w1 := by rw [hw]; exact below_alloc1 _ _
        have hz : w.heap.size = w.heap.size := rfl
        have hs : w1.heap.size = w.heap.size + 1 := by rw [hw, ← hz]; simp
        replace H_rows := Aside0.mk (H_rows.out.below hb)
        replace H_own := Aside0.mk (H_own.out.below hb)
        replace H_idx := Aside0.mk (H_idx.out.below hb)
        replace HB := Aside0.mk (below_then HB.out HB.out.size hb)
        have H_two0 := Aside0.mk (⟨by rw [hw, ← hz]; simp only [World.cell?]; rw [World.alloc_heap_new]; rfl, by rw [hs]; omega⟩ : w1.cell? ⟨w.heap.size, 0, none⟩ = some (.slice A0 rows.length c0) ∧ w.heap.size < w1.heap.size)
        have H_two1 := Aside0.mk (⟨by rw [hw, ← hz]; simp only [World.cell?]; rw [World.alloc_heap_new]; rfl, by rw [hs]; omega⟩ : w1.cell? ⟨w.heap.size, 1, none⟩ = some (.slice A1 owners.length c1) ∧ w.heap.size < w1.heap.size)
        clear hw hb hz
        have HZ := Aside0.mk hs; clear hs
        refine (HK.out _ H_rows.out H_own.out).mono ?_
        rintro e w2 ⟨rfl, hb⟩
        replace H_rows := Aside0.mk (H_rows.out.below hb)
        replace H_own := Aside0.mk (H_own.out.below hb)
        replace H_idx := Aside0.mk (H_idx.out.below hb)
        replace H_two0 := Aside0.mk (cell_on H_two0.out hb)
        replace H_two1 := Aside0.mk (cell_on H_two1.out hb)
        replace HB := Aside0.mk (below_then HB.out HB.out.size hb)
        clear hb
        have x_two0 := H_two0.out.1
        go_wp2
        go_ret3
        rw [HF.out]
        exact ⟨_, rfl, Kd.R_nil _ _ _ _ _, HB.out⟩
    · skip
      have HF : Aside0 (planQ rows owners row idx = ([], false, 1)) := ⟨by unfold planQ; rw [if_pos hd0, if_neg (fun q => g0 q.1)]⟩
      have n0 : decide (row < 0) = true := decide_eq_true (by omega)
      clear g0 hd0
      go_enter Try.func40, Try.ntmps40
      go_wp2_with fail
      obtain ⟨w1, hw⟩ : ∃ W_, W_ = w.alloc (.cells #[.slice A0 rows.length c0, .slice A1 owners.length c1] 25) := ⟨_, rfl⟩
      rw [← hw]
      have hb : Below w.heap.size w w1 := by rw [hw]; exact below_alloc1 _ _
      have hz : w.heap.size = w.heap.size := rfl
      have hs : w1.heap.size = w.heap.size + 1 := by rw [hw, ← hz]; simp
      replace H_rows := Aside0.mk (H_rows.out.below hb)
      replace H_own := Aside0.mk (H_own.out.below hb)
      replace H_idx := Aside0.mk (H_idx.out.below hb)
      replace HB := Aside0.mk (below_then HB.out HB.out.size hb)
      have H_two0 := Aside0.mk (⟨by rw [hw, ← hz]; simp only [World.cell?]; rw [World.alloc_heap_new]; rfl, by rw [hs]; omega⟩ : w1.cell? ⟨w.heap.size, 0, none⟩ = some (.slice A0 rows.length c0) ∧ w.heap.size < w1.heap.size)
      have H_two1 := Aside0.mk (⟨by rw [hw, ← hz]; simp only [World.cell?]; rw [World.alloc_heap_new]; rfl, by rw [hs]; omega⟩ : w1.cell? ⟨w.heap.size, 1, none⟩ = some (.slice A1 owners.length c1) ∧ w.heap.size < w1.heap.size)
      clear hw hb hz
      have HZ := Aside0.mk hs; clear hs
      refine (HK.out _ H_rows.out H_own.out).mono ?_
      rintro e w2 ⟨rfl, hb⟩
      replace H_rows := Aside0.mk (H_rows.out.below hb)
      replace H_own := Aside0.mk (H_own.out.below hb)
      replace H_idx := Aside0.mk (H_idx.out.below hb)
      replace H_two0 := Aside0.mk (cell_on H_two0.out hb)
      replace H_two1 := Aside0.mk (cell_on H_two1.out hb)
      replace HB := Aside0.mk (below_then HB.out HB.out.size hb)
      clear hb
      go_wp2
      go_ret3
      rw [HF.out]
      exact ⟨_, rfl, Kd.R_nil _ _ _ _ _, HB.out⟩
  · skip
    have HF : Aside0 (planQ rows owners row idx = ([], false, t)) := ⟨by unfold planQ; rw [← ht, if_neg h]⟩
    clear ht
    have q1 : (t == 0) = false := beq_eq_false_iff_ne.mpr h
    have q2 : (t != 0) = true := bne_iff_ne.mpr h
    go_enter Try.func40, Try.ntmps40
    go_wp2_with fail
    obtain ⟨w1, hw⟩ : ∃ W_, W_ = w.alloc (.cells #[.slice A0 rows.length c0, .slice A1 owners.length c1] 25) := ⟨_, rfl⟩
    rw [← hw]
    have hb : Below w.heap.size w w1 := by rw [hw]; exact below_alloc1 _ _
    have hz : w.heap.size = w.heap.size := rfl
    have hs : w1.heap.size = w.heap.size + 1 := by rw [hw, ← hz]; simp
    replace H_rows := Aside0.mk (H_rows.out.below hb)
    replace H_own := Aside0.mk (H_own.out.below hb)
    replace H_idx := Aside0.mk (H_idx.out.below hb)
    replace HB := Aside0.mk (below_then HB.out HB.out.size hb)
    have H_two0 := Aside0.mk (⟨by rw [hw, ← hz]; simp only [World.cell?]; rw [World.alloc_heap_new]; rfl, by rw [hs]; omega⟩ : w1.cell? ⟨w.heap.size, 0, none⟩ = some (.slice A0 rows.length c0) ∧ w.heap.size < w1.heap.size)
    have H_two1 := Aside0.mk (⟨by rw [hw, ← hz]; simp only [World.cell?]; rw [World.alloc_heap_new]; rfl, by rw [hs]; omega⟩ : w1.cell? ⟨w.heap.size, 1, none⟩ = some (.slice A1 owners.length c1) ∧ w.heap.size < w1.heap.size)
    clear hw hb hz
    have HZ := Aside0.mk hs; clear hs
    refine (HK.out _ H_rows.out H_own.out).mono ?_
    rintro e w2 ⟨rfl, hb⟩
    replace H_rows := Aside0.mk (H_rows.out.below hb)
    replace H_own := Aside0.mk (H_own.out.below hb)
    replace H_idx := Aside0.mk (H_idx.out.below hb)
    replace H_two0 := Aside0.mk (cell_on H_two0.out hb)
    replace H_two1 := Aside0.mk (cell_on H_two1.out hb)
    replace HB := Aside0.mk (below_then HB.out HB.out.size hb)
    clear hb
    go_wp2
    go_ret3
    rw [HF.out]
    exact ⟨_, rfl, Kd.R_nil _ _ _ _ _, HB.out⟩
end Go.Proofs.Ytdbamhckgaoibaa.P
namespace Go.Proofs.Ytdbamhckgaoibaa.P
open Go.RowKit Go.Proofs.YtdbamhckgaoibaaW.PrintWords Go.Proofs.YtdbamhckgaoibaaW.PrintLast Go.Proofs.YtdbamhckgaoibaaW.PrintMore
abbrev ex3R : List (List Int) := [[1, 1], [1, 2], [1, 3]]
theorem ex3_check : checkP ex3R [0, 1, 2] = 0 := by decide +kernel
theorem ex3_comb : Sig.combine [[1, 2], [1, 3]] [1, 1] = some [2, 1073741788] := by rw [combine_inv1]; decide +kernel
theorem ex3_comb0 : Sig.combine [] [1, 1] = none := by rw [combine_inv1]; decide +kernel
theorem ex3_plan : planQ ex3R [0, 1, 2] 0 [1, 2] = ([2, 1073741788], true, 0) := by
  unfold planQ planT
  rw [if_pos ex3_check, if_pos (by decide), show helpRows ex3R.length 0 (-1) [1, 2] = [1, 2] from by decide, if_pos (by decide), show ([1, 2].map fun i => ex3R.getD i []) = [[1, 2], [1, 3]] from rfl, show ex3R.getD (Int.toNat 0) [] = [1, 1] from rfl, ex3_comb]
theorem ex3_plan0 : planQ ex3R [0, 1, 2] 0 [] = ([], false, 0) := by
  unfold planQ planT
  rw [if_pos ex3_check, if_pos (by decide), show helpRows ex3R.length 0 (-1) [] = [] from by decide, if_pos (by decide), show (([] : List Nat).map fun i => ex3R.getD i []) = [] from rfl, show ex3R.getD (Int.toNat 0) [] = [1, 1] from rfl, ex3_comb0]
theorem ex3_plan1 : planQ ex3R [0, 1, 2] 0 [0, 1] = ([], false, 1) := by
  unfold planQ
  rw [if_pos ex3_check, if_pos (by decide), show helpRows ex3R.length 0 (-1) [0, 1] = [] from by decide, if_neg (by decide)]
theorem ex_part1 : partQ 0 0 0 [] = (0, 0) := by decide +kernel
theorem ex_part2 : partQ 1 0 5 [1073741784] = (0, 0) := by decide +kernel
theorem ex_part3 : partQ 1073741789 0 0 [] = (0, 1) := by decide +kernel
theorem ex_part4 : partQ 0 64 0 [] = (0, 340) := by decide +kernel
theorem ex_part5 : partQ 2 1 118 [50] = (286, 0) := by decide +kernel
theorem ex_part6 : partQ 1073741788 2 127 [1073741739] = (1073741612, 0) := by decide +kernel
abbrev ex3C : List Int := [100, 9].map commitQ
theorem ex3_deal : dealQ ex3R [0, 1, 2] 100 [9] = ([⟨0, 109⟩, ⟨1, 118⟩, ⟨2, 127⟩], ex3C, 0) := by
  rw [deal_good ex3_check (by decide) (by decide) (by decide)]
  rfl
theorem ex3_checkD : checkD ex3R [0, 1, 2] ex3C = 0 := check_dealt (s := [100, 9]) ex3_check rfl
theorem ex3_fits (v : Int) (hv : inQ v = true) : fitsD ex3R [0, 1, 2] ex3C 0 v = (commitQ v == commitQ 109, 0) := by
  have := fits_dealt (s := [100, 9]) ex3_check rfl (i := 0) (by decide) hv
  rw [show ((0 : Nat) : Int) = 0 from rfl] at this
  rw [this, show Sig.dot (ex3R.getD 0 []) [100, 9] = 109 from rfl]
theorem ex3_pub : (publicD ex3R [0, 1, 2] ex3C 0).2 = 0 := by
  unfold publicD
  rw [if_pos ex3_checkD, if_pos (by decide)]
theorem ex_sum1 : sumL [286, 1073741612] = 109 := by decide +kernel
theorem ex_sum2 : sumL [286, 1073741612, 1] = 110 := by decide +kernel
theorem ex_commit109 : commitQ 110 ≠ commitQ 109 := by decide +kernel
theorem ex_fin1 : finishQ ex3R [0, 1, 2] ex3C 0 [286, 1073741612] = (0, 109, true, 0) := by
  unfold finishQ
  rw [if_pos ex3_pub, if_pos (by decide +kernel), ex_sum1, ex3_fits 109 (by decide), if_pos ⟨rfl, beq_self_eq_true _⟩]
theorem ex_fin2 : finishQ ex3R [0, 1, 2] ex3C 0 [286, 1073741612, 1] = (0, 0, false, 0) := by
  unfold finishQ
  rw [if_pos ex3_pub, if_pos (by decide +kernel), ex_sum2, ex3_fits 110 (by decide), if_neg (fun h => ex_commit109 (beq_iff_eq.1 h.2))]
theorem ex_fin3 : finishQ ex3R [0, 1, 2] ex3C 3 [] = (0, 0, false, 1) := by
  have : publicD ex3R [0, 1, 2] ex3C 3 = (0, 1) := by
    unfold publicD
    rw [if_pos ex3_checkD, if_neg (by decide)]
  unfold finishQ
  rw [this, if_neg (by decide)]
theorem ex_fin4 : finishQ ex3R [0, 1, 2] [] 3 [] = (0, 0, false, 340) := by
  have hc : checkD ex3R [0, 1, 2] [] = 340 := by
    unfold checkD
    rw [if_pos ex3_check, if_neg (fun h => by have h1 := h.1; revert h1; decide)]
  have : publicD ex3R [0, 1, 2] [] 3 = (0, 340) := by
    unfold publicD
    rw [hc, if_neg (by decide)]
  unfold finishQ
  rw [this, if_neg (by decide)]
end Go.Proofs.Ytdbamhckgaoibaa.P
namespace Go.Proofs.Ytdbamhckgaoibaa.P
open Go.RowKit Go.Proofs.YtdbamhckgaoibaaW.PrintWords Go.Proofs.YtdbamhckgaoibaaW.PrintLast Go.Proofs.YtdbamhckgaoibaaW.PrintMore
set_option linter.unusedVariables false
theorem three_p (W : World) : Calls Try.prog 108 #[] W fun e' w' => ∃ B0 d0 B1 d1, e' = .returned (.agg #[.slice B0 3 d0, .slice B1 3 d1]) ∧ Sl (Kd.slice 3 (Kd.int .i64)) w' B0 d0 ex3R ∧ Sl (Kd.int .i64) w' B1 d1 [0, 1, 2] ∧ Below W.heap.size W w' := by
  refine (signatorylaw40_three.calls ex3R [0, 1, 2] W rfl).mono ?_
  rintro e' w' ⟨v0, v1, rfl, g0, g1, hb⟩
  obtain ⟨B0, d0, rfl, s0⟩ := Sl.ofN g0
  obtain ⟨B1, d1, rfl, s1⟩ := Sl.ofR g1
  exact ⟨B0, d0, B1, d1, rfl, s0, s1, hb⟩
theorem plan_p {A0 A1 A2 : Option Addr} {c0 c1 c2 : Nat} {rows : List (List Int)} {owners : List Int} {row : Int} {idx y : List Int} {ok : Bool} {e : Int} {W : World} (h0 : Sl (Kd.slice 3 (Kd.int .i64)) W A0 c0 rows) (h1 : Sl (Kd.int .i64) W A1 c1 owners) (h2 : Sl (Kd.int .i64) W A2 c2 idx) (h : planQ rows owners row idx = (y, ok, e)) :
    Calls Try.prog 40 #[.agg #[.slice A0 rows.length c0, .slice A1 owners.length c1], .int .i64 row, .slice A2 idx.length c2] W fun e' w' => ∃ B d, e' = .returned (.tuple #[.slice B y.length d, .bool ok, .int .i64 e]) ∧ Sl (Kd.int .i64) w' B d y ∧ Below W.heap.size W w' := by
  have := plan_w (row := row) h0 h1 h2
  rw [h] at this
  refine this.mono ?_
  rintro e' w' ⟨v, rfl, g, hb⟩
  obtain ⟨B, d, rfl, s⟩ := Sl.ofR g
  exact ⟨B, d, rfl, s, hb⟩
theorem part_p {y f0 f1 : Int} {A2 : Option Addr} {c2 : Nat} {masks : List Int} {x e : Int} {W : World} (h2 : Sl (Kd.int .i64) W A2 c2 masks) (h : partQ y f0 f1 masks = (x, e)) :
    Calls Try.prog 42 #[.int .i64 y, .agg #[.int .i64 f0, .int .i64 f1], .slice A2 masks.length c2] W fun e' w' => e' = .returned (.tuple #[.int .i64 x, .int .i64 e]) ∧ Below W.heap.size W w' := by
  have := part_w (y := y) (f0 := f0) (f1 := f1) h2
  rwa [h] at this
theorem finish_p {A0 A1 A2 A3 : Option Addr} {c0 c1 c2 c3 : Nat} {rows : List (List Int)} {owners cm : List Int} {ep row : Int} {parts : List Int} {f0 f1 : Int} {ok : Bool} {e : Int} {W : World} (h0 : Sl (Kd.slice 3 (Kd.int .i64)) W A0 c0 rows) (h1 : Sl (Kd.int .i64) W A1 c1 owners) (h2 : Sl (Kd.int .i64) W A2 c2 cm) (h3 : Sl (Kd.int .i64) W A3 c3 parts) (h : finishQ rows owners cm row parts = (f0, f1, ok, e)) :
    Calls Try.prog 45 #[.agg #[.int .i64 ep, .slice A0 rows.length c0, .slice A1 owners.length c1, .slice A2 cm.length c2], .int .i64 row, .slice A3 parts.length c3] W fun e' w' => e' = .returned (.tuple #[.agg #[.int .i64 f0, .int .i64 f1], .bool ok, .int .i64 e]) ∧ Below W.heap.size W w' := by
  have := finish_w (ep := ep) (row := row) h0 h1 h2 h3
  rwa [h] at this
theorem same40_p {A0 A1 : Option Addr} {c0 c1 : Nat} {l m : List Int} {r : Bool} {W : World} (h0 : Sl (Kd.int .i64) W A0 c0 l) (h1 : Sl (Kd.int .i64) W A1 c1 m) (h : signatoryref40_SameInts.f 300 l m = some r) :
    Calls Try.prog 44 #[.slice A0 l.length c0, .slice A1 m.length c1] W fun e' w' => e' = .returned (.bool r) ∧ Below W.heap.size W w' :=
  (signatoryref40_SameInts.calls 300 A0 c0 l A1 c1 m r W h0.rd h0.le h1.rd h1.le h).mono fun _ _ h => ⟨h.1, h.2.below⟩
set_option maxRecDepth 100000 in
set_option maxHeartbeats 8000000 in
theorem sane40_c (w : World) : Calls Try.prog 38 #[] w fun e w' => e = .returned (.bool true) ∧ Below w.heap.size w w' := by
  go_enter Try.func38, Try.ntmps38
  go_wp2_with fail
  refine (three_p _).mono ?_
  rintro e w1 ⟨Ao, co, Bo, do_, rfl, ho, hp, hb⟩
  have HB := Aside0.mk hb
  have H_rows := Aside0.mk ho
  have H_own := Aside0.mk hp
  clear hb ho hp
  go_wp2_with fail
  obtain ⟨w2, hw⟩ : ∃ W_, W_ = w1.alloc (.cells #[.int .i64 1, .int .i64 2] 3) := ⟨_, rfl⟩
  rw [← hw]
  have hb : Below w1.heap.size w1 w2 := by rw [hw]; exact below_alloc1 _ _
  have hz : w1.heap.size = w1.heap.size := rfl
  have hs : w2.heap.size = w1.heap.size + 1 := by rw [hw, ← hz]; simp
  have hl : Sl (Kd.int .i64) w2 (some ⟨w1.heap.size, 0, none⟩) 2 [1, 2] := by rw [hw, ← hz]; exact Sl.ints w1 3 [1, 2] (by decide)
  replace H_rows := Aside0.mk (H_rows.out.below hb)
  replace H_own := Aside0.mk (H_own.out.below hb)
  replace HB := Aside0.mk (below_then HB.out HB.out.size hb)
  have H_i1 := Aside0.mk hl; clear hl
  clear hw hb hz
  have HZ := Aside0.mk hs; clear hs
  refine (plan_p H_rows.out H_own.out H_i1.out ex3_plan).mono ?_
  rintro e w3 ⟨Ay, cy, rfl, h1, hb⟩
  clear H_rows
  clear H_own
  clear H_i1
  replace HB := Aside0.mk (below_then HB.out HB.out.size hb)
  have H_y := Aside0.mk h1
  clear hb h1
  go_wp2_with fail
  refine (three_p _).mono ?_
  rintro e w4 ⟨Ao, co, Bo, do_, rfl, ho, hp, hb⟩
  replace H_y := Aside0.mk (H_y.out.below hb)
  replace HB := Aside0.mk (below_then HB.out HB.out.size hb)
  have H_rows := Aside0.mk ho
  have H_own := Aside0.mk hp
  clear hb ho hp
  go_wp2_with fail
  refine (plan_p H_rows.out H_own.out (Sl.none_ _ _) ex3_plan0).mono ?_
  rintro e w5 ⟨_, _, rfl, _, hb⟩
  replace H_y := Aside0.mk (H_y.out.below hb)
  clear H_rows
  clear H_own
  replace HB := Aside0.mk (below_then HB.out HB.out.size hb)
  clear hb
  go_wp2_with fail
  refine (three_p _).mono ?_
  rintro e w6 ⟨Ao, co, Bo, do_, rfl, ho, hp, hb⟩
  replace H_y := Aside0.mk (H_y.out.below hb)
  replace HB := Aside0.mk (below_then HB.out HB.out.size hb)
  have H_rows := Aside0.mk ho
  have H_own := Aside0.mk hp
  clear hb ho hp
  go_wp2_with fail
  obtain ⟨w7, hw⟩ : ∃ W_, W_ = w6.alloc (.cells #[.int .i64 0, .int .i64 1] 3) := ⟨_, rfl⟩
  rw [← hw]
  have hb : Below w6.heap.size w6 w7 := by rw [hw]; exact below_alloc1 _ _
  have hz : w6.heap.size = w6.heap.size := rfl
  have hs : w7.heap.size = w6.heap.size + 1 := by rw [hw, ← hz]; simp
  have hl : Sl (Kd.int .i64) w7 (some ⟨w6.heap.size, 0, none⟩) 2 [0, 1] := by rw [hw, ← hz]; exact Sl.ints w6 3 [0, 1] (by decide)
  replace H_y := Aside0.mk (H_y.out.below hb)
  replace H_rows := Aside0.mk (H_rows.out.below hb)
  replace H_own := Aside0.mk (H_own.out.below hb)
  replace HB := Aside0.mk (below_then HB.out HB.out.size hb)
  have H_i1 := Aside0.mk hl; clear hl
  clear hw hb hz
  have HZ := Aside0.mk hs; clear hs
  refine (plan_p H_rows.out H_own.out H_i1.out ex3_plan1).mono ?_
  rintro e w8 ⟨_, _, rfl, _, hb⟩
  replace H_y := Aside0.mk (H_y.out.below hb)
  clear H_rows
  clear H_own
  clear H_i1
  replace HB := Aside0.mk (below_then HB.out HB.out.size hb)
  clear hb
  go_wp2_with fail
  refine (part_p (Sl.none_ _ _) ex_part1).mono ?_
  rintro e w9 ⟨rfl, hb⟩
  replace H_y := Aside0.mk (H_y.out.below hb)
  replace HB := Aside0.mk (below_then HB.out HB.out.size hb)
  clear hb
  go_wp2_with fail
  obtain ⟨w10, hw⟩ : ∃ W_, W_ = w9.alloc (.cells #[.int .i64 1073741784] 3) := ⟨_, rfl⟩
  rw [← hw]
  have hb : Below w9.heap.size w9 w10 := by rw [hw]; exact below_alloc1 _ _
  have hz : w9.heap.size = w9.heap.size := rfl
  have hs : w10.heap.size = w9.heap.size + 1 := by rw [hw, ← hz]; simp
  have hl : Sl (Kd.int .i64) w10 (some ⟨w9.heap.size, 0, none⟩) 1 [1073741784] := by rw [hw, ← hz]; exact Sl.ints w9 3 [1073741784] (by decide)
  replace H_y := Aside0.mk (H_y.out.below hb)
  replace HB := Aside0.mk (below_then HB.out HB.out.size hb)
  have H_i1 := Aside0.mk hl; clear hl
  clear hw hb hz
  have HZ := Aside0.mk hs; clear hs
  refine (part_p H_i1.out ex_part2).mono ?_
  rintro e w11 ⟨rfl, hb⟩
  replace H_y := Aside0.mk (H_y.out.below hb)
  clear H_i1
  replace HB := Aside0.mk (below_then HB.out HB.out.size hb)
  clear hb
  go_wp2_with fail
  refine (part_p (Sl.none_ _ _) ex_part3).mono ?_
  rintro e w12 ⟨rfl, hb⟩
  replace H_y := Aside0.mk (H_y.out.below hb)
  replace HB := Aside0.mk (below_then HB.out HB.out.size hb)
  clear hb
  go_wp2_with fail
  refine (part_p (Sl.none_ _ _) ex_part4).mono ?_
  rintro e w13 ⟨rfl, hb⟩
  replace H_y := Aside0.mk (H_y.out.below hb)
  replace HB := Aside0.mk (below_then HB.out HB.out.size hb)
  clear hb
  go_wp2_with fail
  obtain ⟨w14, hw⟩ : ∃ W_, W_ = w13.alloc (.cells #[.int .i64 2, .int .i64 1073741788] 3) := ⟨_, rfl⟩
  rw [← hw]
  have hb : Below w13.heap.size w13 w14 := by rw [hw]; exact below_alloc1 _ _
  have hz : w13.heap.size = w13.heap.size := rfl
  have hs : w14.heap.size = w13.heap.size + 1 := by rw [hw, ← hz]; simp
  have hl : Sl (Kd.int .i64) w14 (some ⟨w13.heap.size, 0, none⟩) 2 [2, 1073741788] := by rw [hw, ← hz]; exact Sl.ints w13 3 [2, 1073741788] (by decide)
  replace H_y := Aside0.mk (H_y.out.below hb)
  replace HB := Aside0.mk (below_then HB.out HB.out.size hb)
  have H_i1 := Aside0.mk hl; clear hl
  clear hw hb hz
  have HZ := Aside0.mk hs; clear hs
  refine (same40_p (r := true) H_y.out H_i1.out (by decide +kernel)).mono ?_
  rintro e w15 ⟨rfl, hb⟩
  clear H_y
  clear H_i1
  replace HB := Aside0.mk (below_then HB.out HB.out.size hb)
  clear hb
  go_wp2_with fail
  refine (three_p _).mono ?_
  rintro e w16 ⟨Ao, co, Bo, do_, rfl, ho, hp, hb⟩
  replace HB := Aside0.mk (below_then HB.out HB.out.size hb)
  have H_rows := Aside0.mk ho
  have H_own := Aside0.mk hp
  clear hb ho hp
  go_wp2_with fail
  obtain ⟨w17, hw⟩ : ∃ W_, W_ = w16.alloc (.cells #[.int .i64 9] 3) := ⟨_, rfl⟩
  rw [← hw]
  have hb : Below w16.heap.size w16 w17 := by rw [hw]; exact below_alloc1 _ _
  have hz : w16.heap.size = w16.heap.size := rfl
  have hs : w17.heap.size = w16.heap.size + 1 := by rw [hw, ← hz]; simp
  have hl : Sl (Kd.int .i64) w17 (some ⟨w16.heap.size, 0, none⟩) 1 [9] := by rw [hw, ← hz]; exact Sl.ints w16 3 [9] (by decide)
  replace H_rows := Aside0.mk (H_rows.out.below hb)
  replace H_own := Aside0.mk (H_own.out.below hb)
  replace HB := Aside0.mk (below_then HB.out HB.out.size hb)
  have H_i1 := Aside0.mk hl; clear hl
  clear hw hb hz
  have HZ := Aside0.mk hs; clear hs
  refine (deal_p H_rows.out H_own.out H_i1.out ex3_deal).mono ?_
  rintro e w18 ⟨As, cs, Ac, cc, rfl, _, h2, hb⟩
  clear H_rows
  clear H_own
  clear H_i1
  replace HB := Aside0.mk (below_then HB.out HB.out.size hb)
  have H_cm := Aside0.mk h2
  clear hb h2
  go_wp2_with fail
  refine (three_p _).mono ?_
  rintro e w19 ⟨Ao, co, Bo, do_, rfl, ho, hp, hb⟩
  replace H_cm := Aside0.mk (H_cm.out.below hb)
  replace HB := Aside0.mk (below_then HB.out HB.out.size hb)
  have H_rows := Aside0.mk ho
  have H_own := Aside0.mk hp
  clear hb ho hp
  go_wp2_with fail
  obtain ⟨w20, hw⟩ : ∃ W_, W_ = w19.alloc (.cells #[.int .i64 0, .slice Ao 3 co, .slice Bo 3 do_, .slice Ac 2 cc] 57) := ⟨_, rfl⟩
  rw [← hw]
  have hb : Below w19.heap.size w19 w20 := by rw [hw]; exact below_alloc1 _ _
  have hz : w19.heap.size = w19.heap.size := rfl
  have hs : w20.heap.size = w19.heap.size + 1 := by rw [hw, ← hz]; simp
  replace H_cm := Aside0.mk (H_cm.out.below hb)
  replace H_rows := Aside0.mk (H_rows.out.below hb)
  replace H_own := Aside0.mk (H_own.out.below hb)
  replace HB := Aside0.mk (below_then HB.out HB.out.size hb)
  have H_ky0 := Aside0.mk (⟨by rw [hw, ← hz]; simp only [World.cell?]; rw [World.alloc_heap_new]; rfl, by rw [hs]; omega⟩ : w20.cell? ⟨w19.heap.size, 0, none⟩ = some (.int .i64 0) ∧ w19.heap.size < w20.heap.size)
  have H_ky1 := Aside0.mk (⟨by rw [hw, ← hz]; simp only [World.cell?]; rw [World.alloc_heap_new]; rfl, by rw [hs]; omega⟩ : w20.cell? ⟨w19.heap.size, 1, none⟩ = some (.slice Ao 3 co) ∧ w19.heap.size < w20.heap.size)
  have H_ky2 := Aside0.mk (⟨by rw [hw, ← hz]; simp only [World.cell?]; rw [World.alloc_heap_new]; rfl, by rw [hs]; omega⟩ : w20.cell? ⟨w19.heap.size, 2, none⟩ = some (.slice Bo 3 do_) ∧ w19.heap.size < w20.heap.size)
  have H_ky3 := Aside0.mk (⟨by rw [hw, ← hz]; simp only [World.cell?]; rw [World.alloc_heap_new]; rfl, by rw [hs]; omega⟩ : w20.cell? ⟨w19.heap.size, 3, none⟩ = some (.slice Ac 2 cc) ∧ w19.heap.size < w20.heap.size)
  clear hw hb hz
  have HZ := Aside0.mk hs; clear hs
  obtain ⟨w21, hw⟩ : ∃ W_, W_ = w20.alloc (.cells #[.int .i64 50] 3) := ⟨_, rfl⟩
  rw [← hw]
  have hb : Below w20.heap.size w20 w21 := by rw [hw]; exact below_alloc1 _ _
  have hz : w20.heap.size = w19.heap.size + 1 := HZ.out
  have hs : w21.heap.size = w19.heap.size + 1 + 1 := by rw [hw, ← hz]; simp
  have hl : Sl (Kd.int .i64) w21 (some ⟨w19.heap.size + 1, 0, none⟩) 1 [50] := by rw [hw, ← hz]; exact Sl.ints w20 3 [50] (by decide)
  replace H_cm := Aside0.mk (H_cm.out.below hb)
  replace H_rows := Aside0.mk (H_rows.out.below hb)
  replace H_own := Aside0.mk (H_own.out.below hb)
  replace H_ky0 := Aside0.mk (cell_on H_ky0.out hb)
  replace H_ky1 := Aside0.mk (cell_on H_ky1.out hb)
  replace H_ky2 := Aside0.mk (cell_on H_ky2.out hb)
  replace H_ky3 := Aside0.mk (cell_on H_ky3.out hb)
  replace HB := Aside0.mk (below_then HB.out HB.out.size hb)
  have H_i1 := Aside0.mk hl; clear hl
  clear hw hb hz
  have HZ := Aside0.mk hs; clear hs
  refine (part_p H_i1.out ex_part5).mono ?_
  rintro e w22 ⟨rfl, hb⟩
  replace H_cm := Aside0.mk (H_cm.out.below hb)
  replace H_rows := Aside0.mk (H_rows.out.below hb)
  replace H_own := Aside0.mk (H_own.out.below hb)
  replace H_ky0 := Aside0.mk (cell_on H_ky0.out hb)
  replace H_ky1 := Aside0.mk (cell_on H_ky1.out hb)
  replace H_ky2 := Aside0.mk (cell_on H_ky2.out hb)
  replace H_ky3 := Aside0.mk (cell_on H_ky3.out hb)
  clear H_i1
  replace HB := Aside0.mk (below_then HB.out HB.out.size hb)
  clear hb
  go_wp2_with fail
  obtain ⟨w23, hw⟩ : ∃ W_, W_ = w22.alloc (.cells #[.int .i64 1073741739] 3) := ⟨_, rfl⟩
  rw [← hw]
  have hb : Below w22.heap.size w22 w23 := by rw [hw]; exact below_alloc1 _ _
  have hz : w22.heap.size = w22.heap.size := rfl
  have hs : w23.heap.size = w22.heap.size + 1 := by rw [hw, ← hz]; simp
  have hl : Sl (Kd.int .i64) w23 (some ⟨w22.heap.size, 0, none⟩) 1 [1073741739] := by rw [hw, ← hz]; exact Sl.ints w22 3 [1073741739] (by decide)
  replace H_cm := Aside0.mk (H_cm.out.below hb)
  replace H_rows := Aside0.mk (H_rows.out.below hb)
  replace H_own := Aside0.mk (H_own.out.below hb)
  replace H_ky0 := Aside0.mk (cell_on H_ky0.out hb)
  replace H_ky1 := Aside0.mk (cell_on H_ky1.out hb)
  replace H_ky2 := Aside0.mk (cell_on H_ky2.out hb)
  replace H_ky3 := Aside0.mk (cell_on H_ky3.out hb)
  replace HB := Aside0.mk (below_then HB.out HB.out.size hb)
  have H_i1 := Aside0.mk hl; clear hl
  clear hw hb hz
  have HZ := Aside0.mk hs; clear hs
  refine (part_p H_i1.out ex_part6).mono ?_
  rintro e w24 ⟨rfl, hb⟩
  replace H_cm := Aside0.mk (H_cm.out.below hb)
  replace H_rows := Aside0.mk (H_rows.out.below hb)
  replace H_own := Aside0.mk (H_own.out.below hb)
  replace H_ky0 := Aside0.mk (cell_on H_ky0.out hb)
  replace H_ky1 := Aside0.mk (cell_on H_ky1.out hb)
  replace H_ky2 := Aside0.mk (cell_on H_ky2.out hb)
  replace H_ky3 := Aside0.mk (cell_on H_ky3.out hb)
  clear H_i1
  replace HB := Aside0.mk (below_then HB.out HB.out.size hb)
  clear hb
  have x_ky0 := H_ky0.out.1
  have x_ky1 := H_ky1.out.1
  have x_ky2 := H_ky2.out.1
  have x_ky3 := H_ky3.out.1
  go_wp2_with fail
  clear x_ky0 x_ky1 x_ky2 x_ky3
  obtain ⟨w25, hw⟩ : ∃ W_, W_ = w24.alloc (.cells #[.int .i64 286, .int .i64 1073741612] 3) := ⟨_, rfl⟩
  rw [← hw]
  have hb : Below w24.heap.size w24 w25 := by rw [hw]; exact below_alloc1 _ _
  have hz : w24.heap.size = w24.heap.size := rfl
  have hs : w25.heap.size = w24.heap.size + 1 := by rw [hw, ← hz]; simp
  have hl : Sl (Kd.int .i64) w25 (some ⟨w24.heap.size, 0, none⟩) 2 [286, 1073741612] := by rw [hw, ← hz]; exact Sl.ints w24 3 [286, 1073741612] (by decide)
  replace H_cm := Aside0.mk (H_cm.out.below hb)
  replace H_rows := Aside0.mk (H_rows.out.below hb)
  replace H_own := Aside0.mk (H_own.out.below hb)
  replace H_ky0 := Aside0.mk (cell_on H_ky0.out hb)
  replace H_ky1 := Aside0.mk (cell_on H_ky1.out hb)
  replace H_ky2 := Aside0.mk (cell_on H_ky2.out hb)
  replace H_ky3 := Aside0.mk (cell_on H_ky3.out hb)
  replace HB := Aside0.mk (below_then HB.out HB.out.size hb)
  have H_i1 := Aside0.mk hl; clear hl
  clear hw hb hz
  have HZ := Aside0.mk hs; clear hs
  refine (finish_p H_rows.out H_own.out H_cm.out H_i1.out ex_fin1).mono ?_
  rintro e w26 ⟨rfl, hb⟩
  replace H_cm := Aside0.mk (H_cm.out.below hb)
  replace H_rows := Aside0.mk (H_rows.out.below hb)
  replace H_own := Aside0.mk (H_own.out.below hb)
  replace H_ky0 := Aside0.mk (cell_on H_ky0.out hb)
  replace H_ky1 := Aside0.mk (cell_on H_ky1.out hb)
  replace H_ky2 := Aside0.mk (cell_on H_ky2.out hb)
  replace H_ky3 := Aside0.mk (cell_on H_ky3.out hb)
  clear H_i1
  replace HB := Aside0.mk (below_then HB.out HB.out.size hb)
  clear hb
  go_upto_region 15 with fail
  obtain ⟨w27, hw⟩ : ∃ W_, W_ = w26.alloc (.cells #[.int .i64 0, .int .i64 109] 38) := ⟨_, rfl⟩
  rw [← hw]
  have hb : Below w26.heap.size w26 w27 := by rw [hw]; exact below_alloc1 _ _
  have hz : w26.heap.size = w26.heap.size := rfl
  have hs : w27.heap.size = w26.heap.size + 1 := by rw [hw, ← hz]; simp
  replace H_cm := Aside0.mk (H_cm.out.below hb)
  replace H_rows := Aside0.mk (H_rows.out.below hb)
  replace H_own := Aside0.mk (H_own.out.below hb)
  replace H_ky0 := Aside0.mk (cell_on H_ky0.out hb)
  replace H_ky1 := Aside0.mk (cell_on H_ky1.out hb)
  replace H_ky2 := Aside0.mk (cell_on H_ky2.out hb)
  replace H_ky3 := Aside0.mk (cell_on H_ky3.out hb)
  replace HB := Aside0.mk (below_then HB.out HB.out.size hb)
  have H_fs0 := Aside0.mk (⟨by rw [hw, ← hz]; simp only [World.cell?]; rw [World.alloc_heap_new]; rfl, by rw [hs]; omega⟩ : w27.cell? ⟨w26.heap.size, 0, none⟩ = some (.int .i64 0) ∧ w26.heap.size < w27.heap.size)
  have H_fs1 := Aside0.mk (⟨by rw [hw, ← hz]; simp only [World.cell?]; rw [World.alloc_heap_new]; rfl, by rw [hs]; omega⟩ : w27.cell? ⟨w26.heap.size, 1, none⟩ = some (.int .i64 109) ∧ w26.heap.size < w27.heap.size)
  clear hw hb hz
  have HZ := Aside0.mk hs; clear hs
  have x_ky0 := H_ky0.out.1
  have x_ky1 := H_ky1.out.1
  have x_ky2 := H_ky2.out.1
  have x_ky3 := H_ky3.out.1
  go_wp2_with fail
  clear x_ky0 x_ky1 x_ky2 x_ky3
  obtain ⟨w28, hw⟩ : ∃ W_, W_ = w27.alloc (.cells #[.int .i64 286, .int .i64 1073741612, .int .i64 1] 3) := ⟨_, rfl⟩
  rw [← hw]
  have hb : Below w27.heap.size w27 w28 := by rw [hw]; exact below_alloc1 _ _
  have hz : w27.heap.size = w27.heap.size := rfl
  have hs : w28.heap.size = w27.heap.size + 1 := by rw [hw, ← hz]; simp
  have hl : Sl (Kd.int .i64) w28 (some ⟨w27.heap.size, 0, none⟩) 3 [286, 1073741612, 1] := by rw [hw, ← hz]; exact Sl.ints w27 3 [286, 1073741612, 1] (by decide)
  replace H_cm := Aside0.mk (H_cm.out.below hb)
  replace H_rows := Aside0.mk (H_rows.out.below hb)
  replace H_own := Aside0.mk (H_own.out.below hb)
  replace H_ky0 := Aside0.mk (cell_on H_ky0.out hb)
  replace H_ky1 := Aside0.mk (cell_on H_ky1.out hb)
  replace H_ky2 := Aside0.mk (cell_on H_ky2.out hb)
  replace H_ky3 := Aside0.mk (cell_on H_ky3.out hb)
  replace H_fs0 := Aside0.mk (cell_on H_fs0.out hb)
  replace H_fs1 := Aside0.mk (cell_on H_fs1.out hb)
  replace HB := Aside0.mk (below_then HB.out HB.out.size hb)
  have H_i1 := Aside0.mk hl; clear hl
  clear hw hb hz
  have HZ := Aside0.mk hs; clear hs
  refine (finish_p H_rows.out H_own.out H_cm.out H_i1.out ex_fin2).mono ?_
  rintro e w29 ⟨rfl, hb⟩
  replace H_cm := Aside0.mk (H_cm.out.below hb)
  replace H_rows := Aside0.mk (H_rows.out.below hb)
  replace H_own := Aside0.mk (H_own.out.below hb)
  replace H_ky0 := Aside0.mk (cell_on H_ky0.out hb)
  replace H_ky1 := Aside0.mk (cell_on H_ky1.out hb)
  replace H_ky2 := Aside0.mk (cell_on H_ky2.out hb)
  replace H_ky3 := Aside0.mk (cell_on H_ky3.out hb)
  replace H_fs0 := Aside0.mk (cell_on H_fs0.out hb)
  replace H_fs1 := Aside0.mk (cell_on H_fs1.out hb)
  clear H_i1
  replace HB := Aside0.mk (below_then HB.out HB.out.size hb)
  clear hb
  go_upto_region 16 with fail
  obtain ⟨w30, hw⟩ : ∃ W_, W_ = w29.alloc (.cells #[.int .i64 0, .int .i64 0] 38) := ⟨_, rfl⟩
  rw [← hw]
  have hb : Below w29.heap.size w29 w30 := by rw [hw]; exact below_alloc1 _ _
  have hz : w29.heap.size = w29.heap.size := rfl
  have hs : w30.heap.size = w29.heap.size + 1 := by rw [hw, ← hz]; simp
  replace H_cm := Aside0.mk (H_cm.out.below hb)
  replace H_rows := Aside0.mk (H_rows.out.below hb)
  replace H_own := Aside0.mk (H_own.out.below hb)
  replace H_ky0 := Aside0.mk (cell_on H_ky0.out hb)
  replace H_ky1 := Aside0.mk (cell_on H_ky1.out hb)
  replace H_ky2 := Aside0.mk (cell_on H_ky2.out hb)
  replace H_ky3 := Aside0.mk (cell_on H_ky3.out hb)
  replace H_fs0 := Aside0.mk (cell_on H_fs0.out hb)
  replace H_fs1 := Aside0.mk (cell_on H_fs1.out hb)
  replace HB := Aside0.mk (below_then HB.out HB.out.size hb)
  have H_fq0 := Aside0.mk (⟨by rw [hw, ← hz]; simp only [World.cell?]; rw [World.alloc_heap_new]; rfl, by rw [hs]; omega⟩ : w30.cell? ⟨w29.heap.size, 0, none⟩ = some (.int .i64 0) ∧ w29.heap.size < w30.heap.size)
  have H_fq1 := Aside0.mk (⟨by rw [hw, ← hz]; simp only [World.cell?]; rw [World.alloc_heap_new]; rfl, by rw [hs]; omega⟩ : w30.cell? ⟨w29.heap.size, 1, none⟩ = some (.int .i64 0) ∧ w29.heap.size < w30.heap.size)
  clear hw hb hz
  have HZ := Aside0.mk hs; clear hs
  have x_ky0 := H_ky0.out.1
  have x_ky1 := H_ky1.out.1
  have x_ky2 := H_ky2.out.1
  have x_ky3 := H_ky3.out.1
  go_wp2_with fail
  clear x_ky0 x_ky1 x_ky2 x_ky3
  refine (finish_p H_rows.out H_own.out H_cm.out (Sl.none_ _ _) ex_fin3).mono ?_
  rintro e w31 ⟨rfl, hb⟩
  clear H_cm
  clear H_rows
  clear H_own
  clear H_ky0
  clear H_ky1
  clear H_ky2
  clear H_ky3
  replace H_fs0 := Aside0.mk (cell_on H_fs0.out hb)
  replace H_fs1 := Aside0.mk (cell_on H_fs1.out hb)
  clear H_fq0
  clear H_fq1
  replace HB := Aside0.mk (below_then HB.out HB.out.size hb)
  clear hb
  go_wp2_with fail
  obtain ⟨w32, hw⟩ : ∃ W_, W_ = w31.alloc (.cells #[.int .i64 0, .int .i64 0] 38) := ⟨_, rfl⟩
  rw [← hw]
  have hb : Below w31.heap.size w31 w32 := by rw [hw]; exact below_alloc1 _ _
  have hz : w31.heap.size = w31.heap.size := rfl
  have hs : w32.heap.size = w31.heap.size + 1 := by rw [hw, ← hz]; simp
  replace H_fs0 := Aside0.mk (cell_on H_fs0.out hb)
  replace H_fs1 := Aside0.mk (cell_on H_fs1.out hb)
  replace HB := Aside0.mk (below_then HB.out HB.out.size hb)
  have H_fq0 := Aside0.mk (⟨by rw [hw, ← hz]; simp only [World.cell?]; rw [World.alloc_heap_new]; rfl, by rw [hs]; omega⟩ : w32.cell? ⟨w31.heap.size, 0, none⟩ = some (.int .i64 0) ∧ w31.heap.size < w32.heap.size)
  have H_fq1 := Aside0.mk (⟨by rw [hw, ← hz]; simp only [World.cell?]; rw [World.alloc_heap_new]; rfl, by rw [hs]; omega⟩ : w32.cell? ⟨w31.heap.size, 1, none⟩ = some (.int .i64 0) ∧ w31.heap.size < w32.heap.size)
  clear hw hb hz
  have HZ := Aside0.mk hs; clear hs
  refine (three_p _).mono ?_
  rintro e w33 ⟨Ao, co, Bo, do_, rfl, ho, hp, hb⟩
  replace H_fs0 := Aside0.mk (cell_on H_fs0.out hb)
  replace H_fs1 := Aside0.mk (cell_on H_fs1.out hb)
  clear H_fq0
  clear H_fq1
  replace HB := Aside0.mk (below_then HB.out HB.out.size hb)
  have H_rows := Aside0.mk ho
  have H_own := Aside0.mk hp
  clear hb ho hp
  go_wp2_with fail
  refine (finish_p H_rows.out H_own.out (Sl.none_ _ _) (Sl.none_ _ _) ex_fin4).mono ?_
  rintro e w34 ⟨rfl, hb⟩
  replace H_fs0 := Aside0.mk (cell_on H_fs0.out hb)
  replace H_fs1 := Aside0.mk (cell_on H_fs1.out hb)
  clear H_rows
  clear H_own
  replace HB := Aside0.mk (below_then HB.out HB.out.size hb)
  clear hb
  have x0 := H_fs0.out.1; have x1 := H_fs1.out.1; have x2 := H_fs0.out.2
  go_wp2
  go_ret
  exact ⟨by first | rfl | simp, by first | exact HB.out | exact below_then HB.out HB.out.size (below_alloc1 _ _)⟩
def signatorylaw40_sane.f : Option Bool := some true
theorem signatorylaw40_sane.calls (r : Bool) (w : World) (h : signatorylaw40_sane.f = some r) :
    Calls Try.prog 38 #[] w fun e w' => e = .returned (.bool r) ∧ Below w.heap.size w w' := by
  cases Option.some.inj h
  exact sane40_c w
end Go.Proofs.Ytdbamhckgaoibaa.P
namespace Go.Proofs.Ytdbamhckgaoibaa.P
open Go.RowKit Go.Proofs.YtdbamhckgaoibaaW.PrintWords Go.Proofs.YtdbamhckgaoibaaW.PrintLast Go.Proofs.YtdbamhckgaoibaaW.PrintMore
attribute [local go_sem] max2_int min2_int max_two min_two max_three min_three max_four min_four
set_option linter.unusedVariables false
set_option linter.unusedSimpArgs false
attribute [local go_sem high] eqA38
def signatorylaw40_RebuildFinishSpec.j0 : Nat → Int → List Int → Bool → Int → List (List Int) → List Int → List Int → Option (Bool)
 | 0, _, _, _, _, _, _, _ => none
 | k + 1, x1, x2, x29, x1180000, x1180001, x1180002, x1180003 => if x29 = true then (some true) else ((rebuild_Finish.f x1180000 x1180001 x1180002 x1180003 x1 x2).bind fun bt1182 => ((signatoryref40_Finish.f k x1180000 x1180001 x1180002 x1180003 x1 x2).bind fun bt1187 => (if (bt1182.1 == bt1187.1 && (bt1182.2.1 == bt1187.2.1)) = true then (if (bt1182.2.2.1 == bt1187.2.2.1) = true then (some (bt1182.2.2.2 == bt1187.2.2.2)) else (some false)) else (some false))))
def signatorylaw40_RebuildFinishSpec.f (k : Nat) (a0_0 : Int) (l0_1 : List (List Int)) (l0_2 : List Int) (l0_3 : List Int) (a1 : Int) (l2 : List Int) : Option (Bool) := (signatorylaw40_sane.f).bind fun t1180 => (if t1180 = true then ((signatorylaw40_few.f k l0_1 l0_2).bind fun t1181 => (if t1181 = true then (if (l0_3.length : Int) > 100 then (signatorylaw40_RebuildFinishSpec.j0 k a1 l2 true a0_0 l0_1 l0_2 l0_3) else (signatorylaw40_RebuildFinishSpec.j0 k a1 l2 (decide ((l2.length : Int) > 100)) a0_0 l0_1 l0_2 l0_3)) else (signatorylaw40_RebuildFinishSpec.j0 k a1 l2 true a0_0 l0_1 l0_2 l0_3))) else (some false))
set_option maxHeartbeats 8000000 in
set_option maxRecDepth 100000 in
theorem signatorylaw40_RebuildFinishSpec.calls (k : Nat) (a0_0 : Int) (A0_1 : Option Addr) (c0_1 : Nat) (l0_1 : List (List Int)) (A0_2 : Option Addr) (c0_2 : Nat) (l0_2 : List Int) (A0_3 : Option Addr) (c0_3 : Nat) (l0_3 : List Int) (a1 : Int) (A2 : Option Addr) (c2 : Nat) (l2 : List Int) (r : Bool) (w : World) (hr0_1 : Kd.C (Kd.slice 3 (Kd.int .i64)) w A0_1 l0_1.length l0_1) (hc0_1 : l0_1.length ≤ c0_1) (hr0_2 : Kd.C (Kd.int .i64) w A0_2 l0_2.length l0_2) (hc0_2 : l0_2.length ≤ c0_2) (hr0_3 : Kd.C (Kd.int .i64) w A0_3 l0_3.length l0_3) (hc0_3 : l0_3.length ≤ c0_3) (hr2 : Kd.C (Kd.int .i64) w A2 l2.length l2) (hc2 : l2.length ≤ c2) (h : signatorylaw40_RebuildFinishSpec.f k a0_0 l0_1 l0_2 l0_3 a1 l2 = some r) :
  Calls Try.prog 8 #[.agg #[.int .i64 a0_0, .slice A0_1 l0_1.length c0_1, .slice A0_2 l0_2.length c0_2, .slice A0_3 l0_3.length c0_3], .int .i64 a1, .slice A2 l2.length c2] w fun e w' => e = .returned (.bool r) ∧ Below w.heap.size w w' := by
 have hu57 := Try.underlying57
 have hu25 := Try.underlying25
 have hu38 := Try.underlying38
 have HR0_1 := Aside0.mk hr0_1
 have HC0_1 := Aside0.mk hc0_1
 clear hr0_1 hc0_1
 have HR0_2 := Aside0.mk hr0_2
 have HC0_2 := Aside0.mk hc0_2
 clear hr0_2 hc0_2
 have HR0_3 := Aside0.mk hr0_3
 have HC0_3 := Aside0.mk hc0_3
 clear hr0_3 hc0_3
 have HR2 := Aside0.mk hr2
 have HC2 := Aside0.mk hc2
 clear hr2 hc2
 have HB := Aside0.mk (Below.refl w.heap.size w)
 have H : ((signatorylaw40_sane.f).bind fun t1180 => (if t1180 = true then ((signatorylaw40_few.f k l0_1 l0_2).bind fun t1181 => (if t1181 = true then (if (l0_3.length : Int) > 100 then (signatorylaw40_RebuildFinishSpec.j0 k a1 l2 true a0_0 l0_1 l0_2 l0_3) else (signatorylaw40_RebuildFinishSpec.j0 k a1 l2 (decide ((l2.length : Int) > 100)) a0_0 l0_1 l0_2 l0_3)) else (signatorylaw40_RebuildFinishSpec.j0 k a1 l2 true a0_0 l0_1 l0_2 l0_3))) else (some false))) = some r := h
 clear h
 replace H := Option.bind_eq_some_iff.mp H
 obtain ⟨t1180, A40, H⟩ := H
 replace H : (if t1180 = true then ((signatorylaw40_few.f k l0_1 l0_2).bind fun t1181 => (if t1181 = true then (if (l0_3.length : Int) > 100 then (signatorylaw40_RebuildFinishSpec.j0 k a1 l2 true a0_0 l0_1 l0_2 l0_3) else (signatorylaw40_RebuildFinishSpec.j0 k a1 l2 (decide ((l2.length : Int) > 100)) a0_0 l0_1 l0_2 l0_3)) else (signatorylaw40_RebuildFinishSpec.j0 k a1 l2 true a0_0 l0_1 l0_2 l0_3))) else (some false)) = some r := H
 have A4 := Aside0.mk A40
 clear A40
 by_cases c5 : t1180 = true
 ·subst c5
  have H1 : ((signatorylaw40_few.f k l0_1 l0_2).bind fun t1181 => (if t1181 = true then (if (l0_3.length : Int) > 100 then (signatorylaw40_RebuildFinishSpec.j0 k a1 l2 true a0_0 l0_1 l0_2 l0_3) else (signatorylaw40_RebuildFinishSpec.j0 k a1 l2 (decide ((l2.length : Int) > 100)) a0_0 l0_1 l0_2 l0_3)) else (signatorylaw40_RebuildFinishSpec.j0 k a1 l2 true a0_0 l0_1 l0_2 l0_3))) = some r := by rw [if_pos rfl] at H; exact H
  clear H
  have H := H1
  clear H1
  have HC6 := Aside0.mk H
  clear H
  go_enter Try.func8, Try.ntmps8
  go_upto_region 3 with (first | ((with_reducible refine gate_dst (N := 3) rfl ?_); (try (refine gate_guard (by rfl) ?_; dsimp only)); refine box_event ?hg (N := 3) ?hd (cs := #[.int .i64 a0_0, .slice A0_1 l0_1.length c0_1, .slice A0_2 l0_2.length c0_2, .slice A0_3 l0_3.length c0_3]) (t := 57) ?hr ?_; (case hd => rfl); (case hg => rfl); (case hr => first | (go_simp; done) | (go_simp; rfl)); intro gb1179 hg w7 hbox hb; have n0_ := Aside0.mk (below_step (by repeat (first | (with_reducible first | exact HB.out | apply below_alloc | apply pw_below_drewN | apply below_drew1) | exact HB.out)) hb); have n1_ := Aside0.mk (hbox); have n2_ := Aside0.mk ((by rw [hg]; exact (below_size (by repeat (first | (with_reducible first | exact HB.out | apply below_alloc | apply pw_below_drewN | apply below_drew1) | exact HB.out))) : w.heap.size ≤ gb1179)); have n3_ := Aside0.mk ((by rw [hg]; exact (below_size (by repeat (first | (with_reducible first | exact HB.out | apply below_alloc | apply pw_below_drewN | apply below_drew1) | exact HB.out))) : w.heap.size ≤ gb1179)); clear HB; have HB := n0_; have BK1179 := n1_; have GW1179 := n2_; have GE1179 := n3_; clear n0_ n1_ n2_ n3_; clear hb hbox hg) | ((with_reducible refine gate_callee (f := 38) rfl ?_); refine goesL_ (some 13) rfl rfl Try.func38 (by kernel_rfl) rfl #[] rfl (by (try simp only [List.map_toArray, List.map_cons, List.map_nil]); first | done | rfl | (simp only [List.length_drop, List.length_take]; rfl)) ?_; (with_reducible refine (signatorylaw40_sane.calls  true _ A4.out).mono ?_); rintro e w8 ⟨rfl, hb⟩; refine ⟨_, rfl, ?_⟩; have n0_ := Aside0.mk (blk_below (g := gb1179) (o := .cells #[.int .i64 a0_0, .slice A0_1 l0_1.length c0_1, .slice A0_2 l0_2.length c0_2, .slice A0_3 l0_3.length c0_3] 57 (0, 0)) (by (with_reducible repeat (first | refine blk_drewN ?_ _ | refine blk_drew ?_ | refine blk_alloc ?_ _)); exact BK1179.out) hb); have n1_ := Aside0.mk (below_step (by repeat (first | (with_reducible first | exact HB.out | apply below_alloc | apply pw_below_drewN | apply below_drew1 | refine below_set ?_ GE1179.out) | exact HB.out)) hb); clear BK1179; clear HB; have BK1179 := n0_; have HB := n1_; clear n0_ n1_; (try clear hb); (try clear hb2); (try clear hk); (try clear hi)))
  (try simp only [Act.put, List.setIfInBounds_toArray, List.set_cons_zero, List.set_cons_succ])
  go_cut [29] (fun v29 wc => ∃ (kq : Nat) (x29_5 : Bool), v29 = .bool x29_5 ∧ Aside0 (signatorylaw40_RebuildFinishSpec.j0 kq a1 l2 x29_5 a0_0 l0_1 l0_2 l0_3 = some r) ∧ Aside0 (kq ≤ k) ∧ Aside0 (wc.heap[gb1179]? = some (.cells #[.int .i64 a0_0, (.slice A0_1 l0_1.length c0_1), (.slice A0_2 l0_2.length c0_2), (.slice A0_3 l0_3.length c0_3)] 57 (0, 0))) ∧ Aside0 (Below w.heap.size w wc))
  case first =>
   have H := HC6.out
   clear HC6
   replace H := Option.bind_eq_some_iff.mp H
   obtain ⟨t1181, A90, H⟩ := H
   replace H : (if t1181 = true then (if (l0_3.length : Int) > 100 then (signatorylaw40_RebuildFinishSpec.j0 k a1 l2 true a0_0 l0_1 l0_2 l0_3) else (signatorylaw40_RebuildFinishSpec.j0 k a1 l2 (decide ((l2.length : Int) > 100)) a0_0 l0_1 l0_2 l0_3)) else (signatorylaw40_RebuildFinishSpec.j0 k a1 l2 true a0_0 l0_1 l0_2 l0_3)) = some r := H
   have A9 := Aside0.mk A90
   clear A90
   by_cases c10 : t1181 = true
   ·subst c10
    have H1 : (if (l0_3.length : Int) > 100 then (signatorylaw40_RebuildFinishSpec.j0 k a1 l2 true a0_0 l0_1 l0_2 l0_3) else (signatorylaw40_RebuildFinishSpec.j0 k a1 l2 (decide ((l2.length : Int) > 100)) a0_0 l0_1 l0_2 l0_3)) = some r := by rw [if_pos rfl] at H; exact H
    clear H
    have H := H1
    clear H1
    by_cases c11 : (l0_3.length : Int) > 100
    ·rw [if_pos c11] at H
     have c11b0 : decide (100 < (l0_3.length : Int)) = true := decide_eq_true c11
     have c11b1 : decide (100 < l0_3.length) = true := decide_eq_true (by omega)
     clear c11
     (first | rw [c11b0] | (simp only [i64_w, i32_w]; rw [c11b0]) | skip)
     have H' := Aside0.mk H
     clear H
     have hcz12_0 : w8.cell? ⟨gb1179, 0, none⟩ = some (.int .i64 a0_0) := (blk_cell BK1179.out 0).trans rfl
     have hcz12_1 : w8.cell? ⟨gb1179, 1, none⟩ = some (.slice A0_1 l0_1.length c0_1) := (blk_cell BK1179.out 1).trans rfl
     have hcz12_2 : w8.cell? ⟨gb1179, 2, none⟩ = some (.slice A0_2 l0_2.length c0_2) := (blk_cell BK1179.out 2).trans rfl
     have hcz12_3 : w8.cell? ⟨gb1179, 3, none⟩ = some (.slice A0_3 l0_3.length c0_3) := (blk_cell BK1179.out 3).trans rfl
     have hfz12_0 := blk_frozen BK1179.out 0
     have hfz12_1 := blk_frozen BK1179.out 1
     have hfz12_2 := blk_frozen BK1179.out 2
     have hfz12_3 := blk_frozen BK1179.out 3
     go_wp2_with (first | ((with_reducible refine gate_callee (f := 39) rfl ?_); refine goesL_ (some 17) rfl rfl Try.func39 (by kernel_rfl) rfl #[.agg #[.slice A0_1 l0_1.length c0_1, .slice A0_2 l0_2.length c0_2]] rfl (by (try simp only [List.map_toArray, List.map_cons, List.map_nil]); first | done | rfl | (simp only [List.length_drop, List.length_take]; rfl)) ?_; (with_reducible refine (signatorylaw40_few.calls k _ _ l0_1 _ _ l0_2 true _ ?side1 ?side2 ?side3 ?side4 A9.out).mono ?_); (case side1 => repeat (first | exact (Kd.C_below HR0_1.out HB.out) | (with_reducible refine Kd.C_alloc ?_ _) | (with_reducible refine Kd.C_drewN ?_ _) | (with_reducible refine Kd.C_drew ?_))); (case side2 => exact HC0_1.out); (case side3 => repeat (first | exact (Kd.C_below HR0_2.out HB.out) | (with_reducible refine Kd.C_alloc ?_ _) | (with_reducible refine Kd.C_drewN ?_ _) | (with_reducible refine Kd.C_drew ?_))); (case side4 => exact HC0_2.out); rintro e w13 ⟨rfl, hb⟩; refine ⟨_, rfl, ?_⟩; have n0_ := Aside0.mk (blk_below (g := gb1179) (o := .cells #[.int .i64 a0_0, .slice A0_1 l0_1.length c0_1, .slice A0_2 l0_2.length c0_2, .slice A0_3 l0_3.length c0_3] 57 (0, 0)) (by (with_reducible repeat (first | refine blk_drewN ?_ _ | refine blk_drew ?_ | refine blk_alloc ?_ _)); exact BK1179.out) hb); have n1_ := Aside0.mk (below_step (by repeat (first | (with_reducible first | exact HB.out | apply below_alloc | apply pw_below_drewN | apply below_drew1 | refine below_set ?_ GE1179.out) | exact HB.out)) hb); clear BK1179; clear HB; have BK1179 := n0_; have HB := n1_; clear n0_ n1_; (try clear hb); (try clear hb2); (try clear hk); (try clear hi); have hcz14_0 : w13.cell? ⟨gb1179, 0, none⟩ = some (.int .i64 a0_0) := (blk_cell BK1179.out 0).trans rfl; have hcz14_1 : w13.cell? ⟨gb1179, 1, none⟩ = some (.slice A0_1 l0_1.length c0_1) := (blk_cell BK1179.out 1).trans rfl; have hcz14_2 : w13.cell? ⟨gb1179, 2, none⟩ = some (.slice A0_2 l0_2.length c0_2) := (blk_cell BK1179.out 2).trans rfl; have hcz14_3 : w13.cell? ⟨gb1179, 3, none⟩ = some (.slice A0_3 l0_3.length c0_3) := (blk_cell BK1179.out 3).trans rfl; have hfz14_0 := blk_frozen BK1179.out 0; have hfz14_1 := blk_frozen BK1179.out 1; have hfz14_2 := blk_frozen BK1179.out 2; have hfz14_3 := blk_frozen BK1179.out 3))
     go_meet
     case rel => exact ⟨_, (true), (by first | rfl | (simp; done) | (simp [*]; done)), H', ⟨by first | omega | exact Nat.le_refl _⟩, ⟨by (with_reducible repeat (first | refine blk_drewN ?_ _ | refine blk_drew ?_ | refine blk_alloc ?_ _)); exact BK1179.out⟩, ⟨by repeat (first | (with_reducible first | exact HB.out | apply below_alloc | apply pw_below_drewN | apply below_drew1 | refine below_set ?_ GE1179.out) | exact HB.out)⟩⟩
    ·rw [if_neg c11] at H
     have c11b0 : decide (100 < (l0_3.length : Int)) = false := decide_eq_false c11
     have c11b1 : decide (100 < l0_3.length) = false := decide_eq_false (by omega)
     clear c11
     (first | rw [c11b0] | (simp only [i64_w, i32_w]; rw [c11b0]) | skip)
     have H' := Aside0.mk H
     clear H
     have hcz15_0 : w8.cell? ⟨gb1179, 0, none⟩ = some (.int .i64 a0_0) := (blk_cell BK1179.out 0).trans rfl
     have hcz15_1 : w8.cell? ⟨gb1179, 1, none⟩ = some (.slice A0_1 l0_1.length c0_1) := (blk_cell BK1179.out 1).trans rfl
     have hcz15_2 : w8.cell? ⟨gb1179, 2, none⟩ = some (.slice A0_2 l0_2.length c0_2) := (blk_cell BK1179.out 2).trans rfl
     have hcz15_3 : w8.cell? ⟨gb1179, 3, none⟩ = some (.slice A0_3 l0_3.length c0_3) := (blk_cell BK1179.out 3).trans rfl
     have hfz15_0 := blk_frozen BK1179.out 0
     have hfz15_1 := blk_frozen BK1179.out 1
     have hfz15_2 := blk_frozen BK1179.out 2
     have hfz15_3 := blk_frozen BK1179.out 3
     go_wp2_with (first | ((with_reducible refine gate_callee (f := 39) rfl ?_); refine goesL_ (some 17) rfl rfl Try.func39 (by kernel_rfl) rfl #[.agg #[.slice A0_1 l0_1.length c0_1, .slice A0_2 l0_2.length c0_2]] rfl (by (try simp only [List.map_toArray, List.map_cons, List.map_nil]); first | done | rfl | (simp only [List.length_drop, List.length_take]; rfl)) ?_; (with_reducible refine (signatorylaw40_few.calls k _ _ l0_1 _ _ l0_2 true _ ?side1 ?side2 ?side3 ?side4 A9.out).mono ?_); (case side1 => repeat (first | exact (Kd.C_below HR0_1.out HB.out) | (with_reducible refine Kd.C_alloc ?_ _) | (with_reducible refine Kd.C_drewN ?_ _) | (with_reducible refine Kd.C_drew ?_))); (case side2 => exact HC0_1.out); (case side3 => repeat (first | exact (Kd.C_below HR0_2.out HB.out) | (with_reducible refine Kd.C_alloc ?_ _) | (with_reducible refine Kd.C_drewN ?_ _) | (with_reducible refine Kd.C_drew ?_))); (case side4 => exact HC0_2.out); rintro e w16 ⟨rfl, hb⟩; refine ⟨_, rfl, ?_⟩; have n0_ := Aside0.mk (blk_below (g := gb1179) (o := .cells #[.int .i64 a0_0, .slice A0_1 l0_1.length c0_1, .slice A0_2 l0_2.length c0_2, .slice A0_3 l0_3.length c0_3] 57 (0, 0)) (by (with_reducible repeat (first | refine blk_drewN ?_ _ | refine blk_drew ?_ | refine blk_alloc ?_ _)); exact BK1179.out) hb); have n1_ := Aside0.mk (below_step (by repeat (first | (with_reducible first | exact HB.out | apply below_alloc | apply pw_below_drewN | apply below_drew1 | refine below_set ?_ GE1179.out) | exact HB.out)) hb); clear BK1179; clear HB; have BK1179 := n0_; have HB := n1_; clear n0_ n1_; (try clear hb); (try clear hb2); (try clear hk); (try clear hi); have hcz17_0 : w16.cell? ⟨gb1179, 0, none⟩ = some (.int .i64 a0_0) := (blk_cell BK1179.out 0).trans rfl; have hcz17_1 : w16.cell? ⟨gb1179, 1, none⟩ = some (.slice A0_1 l0_1.length c0_1) := (blk_cell BK1179.out 1).trans rfl; have hcz17_2 : w16.cell? ⟨gb1179, 2, none⟩ = some (.slice A0_2 l0_2.length c0_2) := (blk_cell BK1179.out 2).trans rfl; have hcz17_3 : w16.cell? ⟨gb1179, 3, none⟩ = some (.slice A0_3 l0_3.length c0_3) := (blk_cell BK1179.out 3).trans rfl; have hfz17_0 := blk_frozen BK1179.out 0; have hfz17_1 := blk_frozen BK1179.out 1; have hfz17_2 := blk_frozen BK1179.out 2; have hfz17_3 := blk_frozen BK1179.out 3))
     go_meet
     case rel => exact ⟨_, (decide ((l2.length : Int) > 100)), (by first | rfl | (simp; done) | (simp [*]; done)), H', ⟨by first | omega | exact Nat.le_refl _⟩, ⟨by (with_reducible repeat (first | refine blk_drewN ?_ _ | refine blk_drew ?_ | refine blk_alloc ?_ _)); exact BK1179.out⟩, ⟨by repeat (first | (with_reducible first | exact HB.out | apply below_alloc | apply pw_below_drewN | apply below_drew1 | refine below_set ?_ GE1179.out) | exact HB.out)⟩⟩
   ·replace c10 := Bool.eq_false_iff.mpr c10
    subst c10
    have H1 : (signatorylaw40_RebuildFinishSpec.j0 k a1 l2 true a0_0 l0_1 l0_2 l0_3) = some r := by rw [if_neg (show ¬ (false = true) by decide)] at H; exact H
    clear H
    have H := H1
    clear H1
    have H' := Aside0.mk H
    clear H
    have hcz18_0 : w8.cell? ⟨gb1179, 0, none⟩ = some (.int .i64 a0_0) := (blk_cell BK1179.out 0).trans rfl
    have hcz18_1 : w8.cell? ⟨gb1179, 1, none⟩ = some (.slice A0_1 l0_1.length c0_1) := (blk_cell BK1179.out 1).trans rfl
    have hcz18_2 : w8.cell? ⟨gb1179, 2, none⟩ = some (.slice A0_2 l0_2.length c0_2) := (blk_cell BK1179.out 2).trans rfl
    have hcz18_3 : w8.cell? ⟨gb1179, 3, none⟩ = some (.slice A0_3 l0_3.length c0_3) := (blk_cell BK1179.out 3).trans rfl
    have hfz18_0 := blk_frozen BK1179.out 0
    have hfz18_1 := blk_frozen BK1179.out 1
    have hfz18_2 := blk_frozen BK1179.out 2
    have hfz18_3 := blk_frozen BK1179.out 3
    go_wp2_with (first | ((with_reducible refine gate_callee (f := 39) rfl ?_); refine goesL_ (some 17) rfl rfl Try.func39 (by kernel_rfl) rfl #[.agg #[.slice A0_1 l0_1.length c0_1, .slice A0_2 l0_2.length c0_2]] rfl (by (try simp only [List.map_toArray, List.map_cons, List.map_nil]); first | done | rfl | (simp only [List.length_drop, List.length_take]; rfl)) ?_; (with_reducible refine (signatorylaw40_few.calls k _ _ l0_1 _ _ l0_2 false _ ?side1 ?side2 ?side3 ?side4 A9.out).mono ?_); (case side1 => repeat (first | exact (Kd.C_below HR0_1.out HB.out) | (with_reducible refine Kd.C_alloc ?_ _) | (with_reducible refine Kd.C_drewN ?_ _) | (with_reducible refine Kd.C_drew ?_))); (case side2 => exact HC0_1.out); (case side3 => repeat (first | exact (Kd.C_below HR0_2.out HB.out) | (with_reducible refine Kd.C_alloc ?_ _) | (with_reducible refine Kd.C_drewN ?_ _) | (with_reducible refine Kd.C_drew ?_))); (case side4 => exact HC0_2.out); rintro e w19 ⟨rfl, hb⟩; refine ⟨_, rfl, ?_⟩; have n0_ := Aside0.mk (blk_below (g := gb1179) (o := .cells #[.int .i64 a0_0, .slice A0_1 l0_1.length c0_1, .slice A0_2 l0_2.length c0_2, .slice A0_3 l0_3.length c0_3] 57 (0, 0)) (by (with_reducible repeat (first | refine blk_drewN ?_ _ | refine blk_drew ?_ | refine blk_alloc ?_ _)); exact BK1179.out) hb); have n1_ := Aside0.mk (below_step (by repeat (first | (with_reducible first | exact HB.out | apply below_alloc | apply pw_below_drewN | apply below_drew1 | refine below_set ?_ GE1179.out) | exact HB.out)) hb); clear BK1179; clear HB; have BK1179 := n0_; have HB := n1_; clear n0_ n1_; (try clear hb); (try clear hb2); (try clear hk); (try clear hi)))
    go_meet
    case rel => exact ⟨_, (true), (by first | rfl | (simp; done) | (simp [*]; done)), H', ⟨by first | omega | exact Nat.le_refl _⟩, ⟨by (with_reducible repeat (first | refine blk_drewN ?_ _ | refine blk_drew ?_ | refine blk_alloc ?_ _)); exact BK1179.out⟩, ⟨by repeat (first | (with_reducible first | exact HB.out | apply below_alloc | apply pw_below_drewN | apply below_drew1 | refine below_set ?_ GE1179.out) | exact HB.out)⟩⟩
  case rest =>
   clear HC6
   try clear c1
   try clear c2
   try clear p2
   try clear c3
   try clear c5
   try clear c8
   try clear c10
   try clear c11
   try clear c11b0
   try clear c11b1
   try clear hcz12_0
   try clear hcz12_1
   try clear hcz12_2
   try clear hcz12_3
   try clear hcz14_0
   try clear hcz14_1
   try clear hcz14_2
   try clear hcz14_3
   try clear hcz15_0
   try clear hcz15_1
   try clear hcz15_2
   try clear hcz15_3
   try clear hcz17_0
   try clear hcz17_1
   try clear hcz17_2
   try clear hcz17_3
   try clear hcz18_0
   try clear hcz18_1
   try clear hcz18_2
   try clear hcz18_3
   try clear hfz12_0
   try clear hfz12_1
   try clear hfz12_2
   try clear hfz12_3
   try clear hfz14_0
   try clear hfz14_1
   try clear hfz14_2
   try clear hfz14_3
   try clear hfz15_0
   try clear hfz15_1
   try clear hfz15_2
   try clear hfz15_3
   try clear hfz17_0
   try clear hfz17_1
   try clear hfz17_2
   try clear hfz17_3
   try clear hfz18_0
   try clear hfz18_1
   try clear hfz18_2
   try clear hfz18_3
   obtain ⟨kq, x29_5, rfl, HA, HJ5, BK1179, HB⟩ := hcut
   cases kq with
   | zero => exact absurd HA.out (by simp [signatorylaw40_RebuildFinishSpec.j0])
   | succ kj5 =>
    have H := HA.out
    clear HA
    simp only [signatorylaw40_RebuildFinishSpec.j0] at H
    by_cases c20 : x29_5 = true
    ·subst c20
     have H1 : (some true) = some r := by rw [if_pos rfl] at H; exact H
     clear H
     have H := H1
     clear H1
     obtain rfl := Option.some.inj H
     go_wp2
     go_ret
     exact ⟨by first | rfl | (simp [errW_none, errW_some] <;> rfl) | (simp [*, errW_none, errW_some] <;> rfl), by repeat (first | (with_reducible first | exact HB.out | apply below_alloc | apply pw_below_drewN | apply below_drew1 | refine below_set ?_ GE1179.out) | exact HB.out)⟩
    ·replace c20 := Bool.eq_false_iff.mpr c20
     subst c20
     have H1 : ((rebuild_Finish.f a0_0 l0_1 l0_2 l0_3 a1 l2).bind fun bt1182 => ((signatoryref40_Finish.f kj5 a0_0 l0_1 l0_2 l0_3 a1 l2).bind fun bt1187 => (if (bt1182.1 == bt1187.1 && (bt1182.2.1 == bt1187.2.1)) = true then (if (bt1182.2.2.1 == bt1187.2.2.1) = true then (some (bt1182.2.2.2 == bt1187.2.2.2)) else (some false)) else (some false)))) = some r := by rw [if_neg (show ¬ (false = true) by decide)] at H; exact H
     clear H
     have H := H1
     clear H1
     replace H := Option.bind_eq_some_iff.mp H
     obtain ⟨⟨t1182, t1183, t1184, t1185⟩, A210, H⟩ := H
     replace H : ((signatoryref40_Finish.f kj5 a0_0 l0_1 l0_2 l0_3 a1 l2).bind fun bt1187 => (if (t1182 == bt1187.1 && (t1183 == bt1187.2.1)) = true then (if (t1184 == bt1187.2.2.1) = true then (some (t1185 == bt1187.2.2.2)) else (some false)) else (some false))) = some r := H
     have A21 := Aside0.mk A210
     clear A210
     replace H := Option.bind_eq_some_iff.mp H
     obtain ⟨⟨t1187, t1188, t1189, t1190⟩, A220, H⟩ := H
     replace H : (if (t1182 == t1187 && (t1183 == t1188)) = true then (if (t1184 == t1189) = true then (some (t1185 == t1190)) else (some false)) else (some false)) = some r := H
     have A22 := Aside0.mk A220
     clear A220
     by_cases c23 : (t1182 == t1187 && (t1183 == t1188)) = true
     ·rw [if_pos c23] at H
      have c23b0 : (t1182 == t1187 && (t1183 == t1188)) = true := c23
      (try (have c23b1 : decide (t1182 = t1187 && (t1183 == t1188)) = true := by simpa using c23))
      (try (have c23b2 : (t1182 == t1187 && (t1183 == t1188)) = true := by simpa using c23))
      clear c23
      by_cases c24 : (t1184 == t1189) = true
      ·rw [if_pos c24] at H
       have c24b0 : (t1184 == t1189) = true := c24
       (try (have c24b1 : decide (t1184 = t1189) = true := by simpa using c24))
       (try (have c24b2 : (t1184 == t1189) = true := by simpa using c24))
       clear c24
       obtain rfl := Option.some.inj H
       have hcz25_0 : wc.cell? ⟨gb1179, 0, none⟩ = some (.int .i64 a0_0) := (blk_cell BK1179.out 0).trans rfl
       have hcz25_1 : wc.cell? ⟨gb1179, 1, none⟩ = some (.slice A0_1 l0_1.length c0_1) := (blk_cell BK1179.out 1).trans rfl
       have hcz25_2 : wc.cell? ⟨gb1179, 2, none⟩ = some (.slice A0_2 l0_2.length c0_2) := (blk_cell BK1179.out 2).trans rfl
       have hcz25_3 : wc.cell? ⟨gb1179, 3, none⟩ = some (.slice A0_3 l0_3.length c0_3) := (blk_cell BK1179.out 3).trans rfl
       have hfz25_0 := blk_frozen BK1179.out 0
       have hfz25_1 := blk_frozen BK1179.out 1
       have hfz25_2 := blk_frozen BK1179.out 2
       have hfz25_3 := blk_frozen BK1179.out 3
       go_wp2_with (first | ((with_reducible refine gate_callee (f := 45) rfl ?_); refine goesL_ (some 34) rfl rfl Try.func45 (by kernel_rfl) rfl #[.agg #[.int .i64 a0_0, .slice A0_1 l0_1.length c0_1, .slice A0_2 l0_2.length c0_2, .slice A0_3 l0_3.length c0_3], .int .i64 a1, .slice A2 l2.length c2] rfl (by (try simp only [List.map_toArray, List.map_cons, List.map_nil]); first | done | rfl | (simp only [List.length_drop, List.length_take]; rfl)) ?_; (with_reducible refine (rebuild_Finish.calls a0_0 _ _ l0_1 _ _ l0_2 _ _ l0_3 a1 _ _ l2 t1182 t1183 t1184 t1185 _ ?side1 ?side2 ?side3 ?side4 ?side5 ?side6 ?side7 ?side8 A21.out).mono ?_); (case side1 => repeat (first | exact (Kd.C_below HR0_1.out HB.out) | (with_reducible refine Kd.C_alloc ?_ _) | (with_reducible refine Kd.C_drewN ?_ _) | (with_reducible refine Kd.C_drew ?_))); (case side2 => exact HC0_1.out); (case side3 => repeat (first | exact (Kd.C_below HR0_2.out HB.out) | (with_reducible refine Kd.C_alloc ?_ _) | (with_reducible refine Kd.C_drewN ?_ _) | (with_reducible refine Kd.C_drew ?_))); (case side4 => exact HC0_2.out); (case side5 => repeat (first | exact (Kd.C_below HR0_3.out HB.out) | (with_reducible refine Kd.C_alloc ?_ _) | (with_reducible refine Kd.C_drewN ?_ _) | (with_reducible refine Kd.C_drew ?_))); (case side6 => exact HC0_3.out); (case side7 => repeat (first | exact (Kd.C_below HR2.out HB.out) | (with_reducible refine Kd.C_alloc ?_ _) | (with_reducible refine Kd.C_drewN ?_ _) | (with_reducible refine Kd.C_drew ?_))); (case side8 => exact HC2.out); rintro e w26 ⟨rfl, hb⟩; refine ⟨_, rfl, ?_⟩; have n0_ := Aside0.mk (blk_below (g := gb1179) (o := .cells #[.int .i64 a0_0, .slice A0_1 l0_1.length c0_1, .slice A0_2 l0_2.length c0_2, .slice A0_3 l0_3.length c0_3] 57 (0, 0)) (by (with_reducible repeat (first | refine blk_drewN ?_ _ | refine blk_drew ?_ | refine blk_alloc ?_ _)); exact BK1179.out) hb); have n1_ := Aside0.mk (below_step (by repeat (first | (with_reducible first | exact HB.out | apply below_alloc | apply pw_below_drewN | apply below_drew1 | refine below_set ?_ GE1179.out) | exact HB.out)) hb); clear BK1179; clear HB; have BK1179 := n0_; have HB := n1_; clear n0_ n1_; (try clear hb); (try clear hb2); (try clear hk); (try clear hi)) | ((with_reducible refine gate_dst (N := 7) rfl ?_); (try (refine gate_guard (by rfl) ?_; dsimp only)); refine box_event ?hg (N := 7) ?hd (cs := #[.int .i64 0, .int .i64 0]) (t := 38) ?hr ?_; (case hd => rfl); (case hg => rfl); (case hr => first | (go_simp; done) | (go_simp; rfl)); intro gb1186 hg w27 hbox hb; have n0_ := Aside0.mk (blk_below (g := gb1179) (o := .cells #[.int .i64 a0_0, .slice A0_1 l0_1.length c0_1, .slice A0_2 l0_2.length c0_2, .slice A0_3 l0_3.length c0_3] 57 (0, 0)) (by (with_reducible repeat (first | refine blk_drewN ?_ _ | refine blk_drew ?_ | refine blk_alloc ?_ _)); exact BK1179.out) hb); have n1_ := Aside0.mk (below_step (by repeat (first | (with_reducible first | exact HB.out | apply below_alloc | apply pw_below_drewN | apply below_drew1 | refine below_set ?_ GE1179.out) | exact HB.out)) hb); have n2_ := Aside0.mk (hbox); have n3_ := Aside0.mk ((by rw [hg]; exact (below_size (by repeat (first | (with_reducible first | exact HB.out | apply below_alloc | apply pw_below_drewN | apply below_drew1 | refine below_set ?_ GE1179.out) | exact HB.out))) : w.heap.size ≤ gb1186)); have n4_ := Aside0.mk ((by rw [hg]; exact (below_size (by repeat (first | (with_reducible first | exact HB.out | apply below_alloc | apply pw_below_drewN | apply below_drew1 | refine below_set ?_ GE1179.out) | exact HB.out))) : w.heap.size ≤ gb1186)); have n5_ := Aside0.mk ((by rw [hg]; exact Nat.ne_of_lt (blk_lt (g := gb1179) (o := .cells #[.int .i64 a0_0, .slice A0_1 l0_1.length c0_1, .slice A0_2 l0_2.length c0_2, .slice A0_3 l0_3.length c0_3] 57 (0, 0)) (by (with_reducible repeat (first | refine blk_drewN ?_ _ | refine blk_drew ?_ | refine blk_alloc ?_ _)); exact BK1179.out)) : gb1179 ≠ gb1186)); have n6_ := Aside0.mk ((by rw [hg]; exact Nat.ne_of_gt (blk_lt (g := gb1179) (o := .cells #[.int .i64 a0_0, .slice A0_1 l0_1.length c0_1, .slice A0_2 l0_2.length c0_2, .slice A0_3 l0_3.length c0_3] 57 (0, 0)) (by (with_reducible repeat (first | refine blk_drewN ?_ _ | refine blk_drew ?_ | refine blk_alloc ?_ _)); exact BK1179.out)) : gb1186 ≠ gb1179)); clear BK1179; clear HB; have BK1179 := n0_; have HB := n1_; have BK1186 := n2_; have GW1186 := n3_; have GE1186 := n4_; have NB1179_1186 := n5_; have NB1186_1179 := n6_; clear n0_ n1_ n2_ n3_ n4_ n5_ n6_; clear hb hbox hg; have hnb28 := NB1186_1179.out; have hnc28 := NB1179_1186.out; have hcz29_0 : w27.cell? ⟨gb1186, 0, none⟩ = some (.int .i64 0) := (blk_cell BK1186.out 0).trans rfl; have hcz29_1 : w27.cell? ⟨gb1186, 1, none⟩ = some (.int .i64 0) := (blk_cell BK1186.out 1).trans rfl; have hfz29_0 := blk_frozen BK1186.out 0; have hfz29_1 := blk_frozen BK1186.out 1; have hcz30_0 : w27.cell? ⟨gb1179, 0, none⟩ = some (.int .i64 a0_0) := (blk_cell BK1179.out 0).trans rfl; have hcz30_1 : w27.cell? ⟨gb1179, 1, none⟩ = some (.slice A0_1 l0_1.length c0_1) := (blk_cell BK1179.out 1).trans rfl; have hcz30_2 : w27.cell? ⟨gb1179, 2, none⟩ = some (.slice A0_2 l0_2.length c0_2) := (blk_cell BK1179.out 2).trans rfl; have hcz30_3 : w27.cell? ⟨gb1179, 3, none⟩ = some (.slice A0_3 l0_3.length c0_3) := (blk_cell BK1179.out 3).trans rfl; have hfz30_0 := blk_frozen BK1179.out 0; have hfz30_1 := blk_frozen BK1179.out 1; have hfz30_2 := blk_frozen BK1179.out 2; have hfz30_3 := blk_frozen BK1179.out 3) | ((with_reducible refine gate_callee (f := 46) rfl ?_); refine goesL_ (some 42) rfl rfl Try.func46 (by kernel_rfl) rfl #[.agg #[.int .i64 a0_0, .slice A0_1 l0_1.length c0_1, .slice A0_2 l0_2.length c0_2, .slice A0_3 l0_3.length c0_3], .int .i64 a1, .slice A2 l2.length c2] rfl (by (try simp only [List.map_toArray, List.map_cons, List.map_nil]); first | done | rfl | (simp only [List.length_drop, List.length_take]; rfl)) ?_; (with_reducible refine (signatoryref40_Finish.calls kj5 a0_0 _ _ l0_1 _ _ l0_2 _ _ l0_3 a1 _ _ l2 t1187 t1188 t1189 t1190 _ ?side1 ?side2 ?side3 ?side4 ?side5 ?side6 ?side7 ?side8 A22.out).mono ?_); (case side1 => exact Kd.C_below HR0_1.out (by repeat (first | (with_reducible first | exact HB.out | apply below_alloc | apply pw_below_drewN | apply below_drew1 | refine below_set ?_ GE1179.out | refine below_set ?_ GE1186.out) | exact HB.out))); (case side2 => exact HC0_1.out); (case side3 => exact Kd.C_below HR0_2.out (by repeat (first | (with_reducible first | exact HB.out | apply below_alloc | apply pw_below_drewN | apply below_drew1 | refine below_set ?_ GE1179.out | refine below_set ?_ GE1186.out) | exact HB.out))); (case side4 => exact HC0_2.out); (case side5 => exact Kd.C_below HR0_3.out (by repeat (first | (with_reducible first | exact HB.out | apply below_alloc | apply pw_below_drewN | apply below_drew1 | refine below_set ?_ GE1179.out | refine below_set ?_ GE1186.out) | exact HB.out))); (case side6 => exact HC0_3.out); (case side7 => exact Kd.C_below HR2.out (by repeat (first | (with_reducible first | exact HB.out | apply below_alloc | apply pw_below_drewN | apply below_drew1 | refine below_set ?_ GE1179.out | refine below_set ?_ GE1186.out) | exact HB.out))); (case side8 => exact HC2.out); rintro e w31 ⟨rfl, hb⟩; refine ⟨_, rfl, ?_⟩; have n0_ := Aside0.mk (blk_below (g := gb1179) (o := .cells #[.int .i64 a0_0, .slice A0_1 l0_1.length c0_1, .slice A0_2 l0_2.length c0_2, .slice A0_3 l0_3.length c0_3] 57 (0, 0)) (by (with_reducible repeat (first | refine blk_drewN ?_ _ | refine blk_drew ?_ | refine blk_alloc ?_ _)); refine blk_far ?_ NB1179_1186.out _; (with_reducible repeat (first | refine blk_drewN ?_ _ | refine blk_drew ?_ | refine blk_alloc ?_ _)); refine blk_far ?_ NB1179_1186.out _; (with_reducible repeat (first | refine blk_drewN ?_ _ | refine blk_drew ?_ | refine blk_alloc ?_ _)); exact BK1179.out) hb); have n1_ := Aside0.mk (blk_below (g := gb1186) (o := .cells #[.int .i64 t1182, .int .i64 t1183] 38 (0, 0)) (by (with_reducible repeat (first | refine blk_drewN ?_ _ | refine blk_drew ?_ | refine blk_alloc ?_ _)); refine blk_put (cs := #[.int .i64 t1182, .int .i64 0]) ?_ 1 _ rfl; (with_reducible repeat (first | refine blk_drewN ?_ _ | refine blk_drew ?_ | refine blk_alloc ?_ _)); refine blk_put (cs := #[.int .i64 0, .int .i64 0]) ?_ 0 _ rfl; (with_reducible repeat (first | refine blk_drewN ?_ _ | refine blk_drew ?_ | refine blk_alloc ?_ _)); exact BK1186.out) hb); have n2_ := Aside0.mk (below_step (by repeat (first | (with_reducible first | exact HB.out | apply below_alloc | apply pw_below_drewN | apply below_drew1 | refine below_set ?_ GE1179.out | refine below_set ?_ GE1186.out) | exact HB.out)) hb); clear BK1179; clear BK1186; clear HB; have BK1179 := n0_; have BK1186 := n1_; have HB := n2_; clear n0_ n1_ n2_; (try clear hb); (try clear hb2); (try clear hk); (try clear hi)) | ((with_reducible refine gate_dst (N := 10) rfl ?_); (try (refine gate_guard (by rfl) ?_; dsimp only)); refine box_event ?hg (N := 10) ?hd (cs := #[.int .i64 0, .int .i64 0]) (t := 38) ?hr ?_; (case hd => rfl); (case hg => rfl); (case hr => first | (go_simp; done) | (go_simp; rfl)); intro gb1191 hg w32 hbox hb; have n0_ := Aside0.mk (blk_below (g := gb1179) (o := .cells #[.int .i64 a0_0, .slice A0_1 l0_1.length c0_1, .slice A0_2 l0_2.length c0_2, .slice A0_3 l0_3.length c0_3] 57 (0, 0)) (by (with_reducible repeat (first | refine blk_drewN ?_ _ | refine blk_drew ?_ | refine blk_alloc ?_ _)); exact BK1179.out) hb); have n1_ := Aside0.mk (blk_below (g := gb1186) (o := .cells #[.int .i64 t1182, .int .i64 t1183] 38 (0, 0)) (by (with_reducible repeat (first | refine blk_drewN ?_ _ | refine blk_drew ?_ | refine blk_alloc ?_ _)); exact BK1186.out) hb); have n2_ := Aside0.mk (below_step (by repeat (first | (with_reducible first | exact HB.out | apply below_alloc | apply pw_below_drewN | apply below_drew1 | refine below_set ?_ GE1179.out | refine below_set ?_ GE1186.out) | exact HB.out)) hb); have n3_ := Aside0.mk (hbox); have n4_ := Aside0.mk ((by rw [hg]; exact (below_size (by repeat (first | (with_reducible first | exact HB.out | apply below_alloc | apply pw_below_drewN | apply below_drew1 | refine below_set ?_ GE1179.out | refine below_set ?_ GE1186.out) | exact HB.out))) : w.heap.size ≤ gb1191)); have n5_ := Aside0.mk ((by rw [hg]; exact (below_size (by repeat (first | (with_reducible first | exact HB.out | apply below_alloc | apply pw_below_drewN | apply below_drew1 | refine below_set ?_ GE1179.out | refine below_set ?_ GE1186.out) | exact HB.out))) : w.heap.size ≤ gb1191)); have n6_ := Aside0.mk ((by rw [hg]; exact Nat.ne_of_lt (blk_lt (g := gb1179) (o := .cells #[.int .i64 a0_0, .slice A0_1 l0_1.length c0_1, .slice A0_2 l0_2.length c0_2, .slice A0_3 l0_3.length c0_3] 57 (0, 0)) (by (with_reducible repeat (first | refine blk_drewN ?_ _ | refine blk_drew ?_ | refine blk_alloc ?_ _)); exact BK1179.out)) : gb1179 ≠ gb1191)); have n7_ := Aside0.mk ((by rw [hg]; exact Nat.ne_of_gt (blk_lt (g := gb1179) (o := .cells #[.int .i64 a0_0, .slice A0_1 l0_1.length c0_1, .slice A0_2 l0_2.length c0_2, .slice A0_3 l0_3.length c0_3] 57 (0, 0)) (by (with_reducible repeat (first | refine blk_drewN ?_ _ | refine blk_drew ?_ | refine blk_alloc ?_ _)); exact BK1179.out)) : gb1191 ≠ gb1179)); have n8_ := Aside0.mk ((by rw [hg]; exact Nat.ne_of_lt (blk_lt (g := gb1186) (o := .cells #[.int .i64 t1182, .int .i64 t1183] 38 (0, 0)) (by (with_reducible repeat (first | refine blk_drewN ?_ _ | refine blk_drew ?_ | refine blk_alloc ?_ _)); exact BK1186.out)) : gb1186 ≠ gb1191)); have n9_ := Aside0.mk ((by rw [hg]; exact Nat.ne_of_gt (blk_lt (g := gb1186) (o := .cells #[.int .i64 t1182, .int .i64 t1183] 38 (0, 0)) (by (with_reducible repeat (first | refine blk_drewN ?_ _ | refine blk_drew ?_ | refine blk_alloc ?_ _)); exact BK1186.out)) : gb1191 ≠ gb1186)); clear BK1179; clear BK1186; clear HB; have BK1179 := n0_; have BK1186 := n1_; have HB := n2_; have BK1191 := n3_; have GW1191 := n4_; have GE1191 := n5_; have NB1179_1191 := n6_; have NB1191_1179 := n7_; have NB1186_1191 := n8_; have NB1191_1186 := n9_; clear n0_ n1_ n2_ n3_ n4_ n5_ n6_ n7_ n8_ n9_; clear hb hbox hg; have hnb33 := NB1191_1179.out; have hnc33 := NB1179_1191.out; have hnb34 := NB1191_1186.out; have hnc34 := NB1186_1191.out; have hcz35_0 : w32.cell? ⟨gb1191, 0, none⟩ = some (.int .i64 0) := (blk_cell BK1191.out 0).trans rfl; have hcz35_1 : w32.cell? ⟨gb1191, 1, none⟩ = some (.int .i64 0) := (blk_cell BK1191.out 1).trans rfl; have hfz35_0 := blk_frozen BK1191.out 0; have hfz35_1 := blk_frozen BK1191.out 1; have hcz36_0 : w32.cell? ⟨gb1186, 0, none⟩ = some (.int .i64 t1182) := (blk_cell BK1186.out 0).trans rfl; have hcz36_1 : w32.cell? ⟨gb1186, 1, none⟩ = some (.int .i64 t1183) := (blk_cell BK1186.out 1).trans rfl; have hfz36_0 := blk_frozen BK1186.out 0; have hfz36_1 := blk_frozen BK1186.out 1))
       go_ret
       exact ⟨by first | rfl | (simp [errW_none, errW_some] <;> rfl) | (simp [*, errW_none, errW_some] <;> rfl), by repeat (first | (with_reducible first | exact HB.out | apply below_alloc | apply pw_below_drewN | apply below_drew1 | refine below_set ?_ GE1179.out | refine below_set ?_ GE1186.out | refine below_set ?_ GE1191.out) | exact HB.out)⟩
      ·rw [if_neg c24] at H
       have c24b0 : (t1184 == t1189) = false := by simpa using c24
       (try (have c24b1 : decide (t1184 = t1189) = false := by simpa using c24))
       (try (have c24b2 : (t1184 == t1189) = false := by simpa using c24))
       (try (have c24b3 : ¬ (t1184 = t1189) := by simpa using c24))
       clear c24
       obtain rfl := Option.some.inj H
       have hcz37_0 : wc.cell? ⟨gb1179, 0, none⟩ = some (.int .i64 a0_0) := (blk_cell BK1179.out 0).trans rfl
       have hcz37_1 : wc.cell? ⟨gb1179, 1, none⟩ = some (.slice A0_1 l0_1.length c0_1) := (blk_cell BK1179.out 1).trans rfl
       have hcz37_2 : wc.cell? ⟨gb1179, 2, none⟩ = some (.slice A0_2 l0_2.length c0_2) := (blk_cell BK1179.out 2).trans rfl
       have hcz37_3 : wc.cell? ⟨gb1179, 3, none⟩ = some (.slice A0_3 l0_3.length c0_3) := (blk_cell BK1179.out 3).trans rfl
       have hfz37_0 := blk_frozen BK1179.out 0
       have hfz37_1 := blk_frozen BK1179.out 1
       have hfz37_2 := blk_frozen BK1179.out 2
       have hfz37_3 := blk_frozen BK1179.out 3
       go_wp2_with (first | ((with_reducible refine gate_callee (f := 45) rfl ?_); refine goesL_ (some 34) rfl rfl Try.func45 (by kernel_rfl) rfl #[.agg #[.int .i64 a0_0, .slice A0_1 l0_1.length c0_1, .slice A0_2 l0_2.length c0_2, .slice A0_3 l0_3.length c0_3], .int .i64 a1, .slice A2 l2.length c2] rfl (by (try simp only [List.map_toArray, List.map_cons, List.map_nil]); first | done | rfl | (simp only [List.length_drop, List.length_take]; rfl)) ?_; (with_reducible refine (rebuild_Finish.calls a0_0 _ _ l0_1 _ _ l0_2 _ _ l0_3 a1 _ _ l2 t1182 t1183 t1184 t1185 _ ?side1 ?side2 ?side3 ?side4 ?side5 ?side6 ?side7 ?side8 A21.out).mono ?_); (case side1 => repeat (first | exact (Kd.C_below HR0_1.out HB.out) | (with_reducible refine Kd.C_alloc ?_ _) | (with_reducible refine Kd.C_drewN ?_ _) | (with_reducible refine Kd.C_drew ?_))); (case side2 => exact HC0_1.out); (case side3 => repeat (first | exact (Kd.C_below HR0_2.out HB.out) | (with_reducible refine Kd.C_alloc ?_ _) | (with_reducible refine Kd.C_drewN ?_ _) | (with_reducible refine Kd.C_drew ?_))); (case side4 => exact HC0_2.out); (case side5 => repeat (first | exact (Kd.C_below HR0_3.out HB.out) | (with_reducible refine Kd.C_alloc ?_ _) | (with_reducible refine Kd.C_drewN ?_ _) | (with_reducible refine Kd.C_drew ?_))); (case side6 => exact HC0_3.out); (case side7 => repeat (first | exact (Kd.C_below HR2.out HB.out) | (with_reducible refine Kd.C_alloc ?_ _) | (with_reducible refine Kd.C_drewN ?_ _) | (with_reducible refine Kd.C_drew ?_))); (case side8 => exact HC2.out); rintro e w38 ⟨rfl, hb⟩; refine ⟨_, rfl, ?_⟩; have n0_ := Aside0.mk (blk_below (g := gb1179) (o := .cells #[.int .i64 a0_0, .slice A0_1 l0_1.length c0_1, .slice A0_2 l0_2.length c0_2, .slice A0_3 l0_3.length c0_3] 57 (0, 0)) (by (with_reducible repeat (first | refine blk_drewN ?_ _ | refine blk_drew ?_ | refine blk_alloc ?_ _)); exact BK1179.out) hb); have n1_ := Aside0.mk (below_step (by repeat (first | (with_reducible first | exact HB.out | apply below_alloc | apply pw_below_drewN | apply below_drew1 | refine below_set ?_ GE1179.out) | exact HB.out)) hb); clear BK1179; clear HB; have BK1179 := n0_; have HB := n1_; clear n0_ n1_; (try clear hb); (try clear hb2); (try clear hk); (try clear hi)) | ((with_reducible refine gate_dst (N := 7) rfl ?_); (try (refine gate_guard (by rfl) ?_; dsimp only)); refine box_event ?hg (N := 7) ?hd (cs := #[.int .i64 0, .int .i64 0]) (t := 38) ?hr ?_; (case hd => rfl); (case hg => rfl); (case hr => first | (go_simp; done) | (go_simp; rfl)); intro gb1186 hg w39 hbox hb; have n0_ := Aside0.mk (blk_below (g := gb1179) (o := .cells #[.int .i64 a0_0, .slice A0_1 l0_1.length c0_1, .slice A0_2 l0_2.length c0_2, .slice A0_3 l0_3.length c0_3] 57 (0, 0)) (by (with_reducible repeat (first | refine blk_drewN ?_ _ | refine blk_drew ?_ | refine blk_alloc ?_ _)); exact BK1179.out) hb); have n1_ := Aside0.mk (below_step (by repeat (first | (with_reducible first | exact HB.out | apply below_alloc | apply pw_below_drewN | apply below_drew1 | refine below_set ?_ GE1179.out) | exact HB.out)) hb); have n2_ := Aside0.mk (hbox); have n3_ := Aside0.mk ((by rw [hg]; exact (below_size (by repeat (first | (with_reducible first | exact HB.out | apply below_alloc | apply pw_below_drewN | apply below_drew1 | refine below_set ?_ GE1179.out) | exact HB.out))) : w.heap.size ≤ gb1186)); have n4_ := Aside0.mk ((by rw [hg]; exact (below_size (by repeat (first | (with_reducible first | exact HB.out | apply below_alloc | apply pw_below_drewN | apply below_drew1 | refine below_set ?_ GE1179.out) | exact HB.out))) : w.heap.size ≤ gb1186)); have n5_ := Aside0.mk ((by rw [hg]; exact Nat.ne_of_lt (blk_lt (g := gb1179) (o := .cells #[.int .i64 a0_0, .slice A0_1 l0_1.length c0_1, .slice A0_2 l0_2.length c0_2, .slice A0_3 l0_3.length c0_3] 57 (0, 0)) (by (with_reducible repeat (first | refine blk_drewN ?_ _ | refine blk_drew ?_ | refine blk_alloc ?_ _)); exact BK1179.out)) : gb1179 ≠ gb1186)); have n6_ := Aside0.mk ((by rw [hg]; exact Nat.ne_of_gt (blk_lt (g := gb1179) (o := .cells #[.int .i64 a0_0, .slice A0_1 l0_1.length c0_1, .slice A0_2 l0_2.length c0_2, .slice A0_3 l0_3.length c0_3] 57 (0, 0)) (by (with_reducible repeat (first | refine blk_drewN ?_ _ | refine blk_drew ?_ | refine blk_alloc ?_ _)); exact BK1179.out)) : gb1186 ≠ gb1179)); clear BK1179; clear HB; have BK1179 := n0_; have HB := n1_; have BK1186 := n2_; have GW1186 := n3_; have GE1186 := n4_; have NB1179_1186 := n5_; have NB1186_1179 := n6_; clear n0_ n1_ n2_ n3_ n4_ n5_ n6_; clear hb hbox hg; have hnb40 := NB1186_1179.out; have hnc40 := NB1179_1186.out; have hcz41_0 : w39.cell? ⟨gb1186, 0, none⟩ = some (.int .i64 0) := (blk_cell BK1186.out 0).trans rfl; have hcz41_1 : w39.cell? ⟨gb1186, 1, none⟩ = some (.int .i64 0) := (blk_cell BK1186.out 1).trans rfl; have hfz41_0 := blk_frozen BK1186.out 0; have hfz41_1 := blk_frozen BK1186.out 1; have hcz42_0 : w39.cell? ⟨gb1179, 0, none⟩ = some (.int .i64 a0_0) := (blk_cell BK1179.out 0).trans rfl; have hcz42_1 : w39.cell? ⟨gb1179, 1, none⟩ = some (.slice A0_1 l0_1.length c0_1) := (blk_cell BK1179.out 1).trans rfl; have hcz42_2 : w39.cell? ⟨gb1179, 2, none⟩ = some (.slice A0_2 l0_2.length c0_2) := (blk_cell BK1179.out 2).trans rfl; have hcz42_3 : w39.cell? ⟨gb1179, 3, none⟩ = some (.slice A0_3 l0_3.length c0_3) := (blk_cell BK1179.out 3).trans rfl; have hfz42_0 := blk_frozen BK1179.out 0; have hfz42_1 := blk_frozen BK1179.out 1; have hfz42_2 := blk_frozen BK1179.out 2; have hfz42_3 := blk_frozen BK1179.out 3) | ((with_reducible refine gate_callee (f := 46) rfl ?_); refine goesL_ (some 42) rfl rfl Try.func46 (by kernel_rfl) rfl #[.agg #[.int .i64 a0_0, .slice A0_1 l0_1.length c0_1, .slice A0_2 l0_2.length c0_2, .slice A0_3 l0_3.length c0_3], .int .i64 a1, .slice A2 l2.length c2] rfl (by (try simp only [List.map_toArray, List.map_cons, List.map_nil]); first | done | rfl | (simp only [List.length_drop, List.length_take]; rfl)) ?_; (with_reducible refine (signatoryref40_Finish.calls kj5 a0_0 _ _ l0_1 _ _ l0_2 _ _ l0_3 a1 _ _ l2 t1187 t1188 t1189 t1190 _ ?side1 ?side2 ?side3 ?side4 ?side5 ?side6 ?side7 ?side8 A22.out).mono ?_); (case side1 => exact Kd.C_below HR0_1.out (by repeat (first | (with_reducible first | exact HB.out | apply below_alloc | apply pw_below_drewN | apply below_drew1 | refine below_set ?_ GE1179.out | refine below_set ?_ GE1186.out) | exact HB.out))); (case side2 => exact HC0_1.out); (case side3 => exact Kd.C_below HR0_2.out (by repeat (first | (with_reducible first | exact HB.out | apply below_alloc | apply pw_below_drewN | apply below_drew1 | refine below_set ?_ GE1179.out | refine below_set ?_ GE1186.out) | exact HB.out))); (case side4 => exact HC0_2.out); (case side5 => exact Kd.C_below HR0_3.out (by repeat (first | (with_reducible first | exact HB.out | apply below_alloc | apply pw_below_drewN | apply below_drew1 | refine below_set ?_ GE1179.out | refine below_set ?_ GE1186.out) | exact HB.out))); (case side6 => exact HC0_3.out); (case side7 => exact Kd.C_below HR2.out (by repeat (first | (with_reducible first | exact HB.out | apply below_alloc | apply pw_below_drewN | apply below_drew1 | refine below_set ?_ GE1179.out | refine below_set ?_ GE1186.out) | exact HB.out))); (case side8 => exact HC2.out); rintro e w43 ⟨rfl, hb⟩; refine ⟨_, rfl, ?_⟩; have n0_ := Aside0.mk (blk_below (g := gb1179) (o := .cells #[.int .i64 a0_0, .slice A0_1 l0_1.length c0_1, .slice A0_2 l0_2.length c0_2, .slice A0_3 l0_3.length c0_3] 57 (0, 0)) (by (with_reducible repeat (first | refine blk_drewN ?_ _ | refine blk_drew ?_ | refine blk_alloc ?_ _)); refine blk_far ?_ NB1179_1186.out _; (with_reducible repeat (first | refine blk_drewN ?_ _ | refine blk_drew ?_ | refine blk_alloc ?_ _)); refine blk_far ?_ NB1179_1186.out _; (with_reducible repeat (first | refine blk_drewN ?_ _ | refine blk_drew ?_ | refine blk_alloc ?_ _)); exact BK1179.out) hb); have n1_ := Aside0.mk (blk_below (g := gb1186) (o := .cells #[.int .i64 t1182, .int .i64 t1183] 38 (0, 0)) (by (with_reducible repeat (first | refine blk_drewN ?_ _ | refine blk_drew ?_ | refine blk_alloc ?_ _)); refine blk_put (cs := #[.int .i64 t1182, .int .i64 0]) ?_ 1 _ rfl; (with_reducible repeat (first | refine blk_drewN ?_ _ | refine blk_drew ?_ | refine blk_alloc ?_ _)); refine blk_put (cs := #[.int .i64 0, .int .i64 0]) ?_ 0 _ rfl; (with_reducible repeat (first | refine blk_drewN ?_ _ | refine blk_drew ?_ | refine blk_alloc ?_ _)); exact BK1186.out) hb); have n2_ := Aside0.mk (below_step (by repeat (first | (with_reducible first | exact HB.out | apply below_alloc | apply pw_below_drewN | apply below_drew1 | refine below_set ?_ GE1179.out | refine below_set ?_ GE1186.out) | exact HB.out)) hb); clear BK1179; clear BK1186; clear HB; have BK1179 := n0_; have BK1186 := n1_; have HB := n2_; clear n0_ n1_ n2_; (try clear hb); (try clear hb2); (try clear hk); (try clear hi)) | ((with_reducible refine gate_dst (N := 10) rfl ?_); (try (refine gate_guard (by rfl) ?_; dsimp only)); refine box_event ?hg (N := 10) ?hd (cs := #[.int .i64 0, .int .i64 0]) (t := 38) ?hr ?_; (case hd => rfl); (case hg => rfl); (case hr => first | (go_simp; done) | (go_simp; rfl)); intro gb1191 hg w44 hbox hb; have n0_ := Aside0.mk (blk_below (g := gb1179) (o := .cells #[.int .i64 a0_0, .slice A0_1 l0_1.length c0_1, .slice A0_2 l0_2.length c0_2, .slice A0_3 l0_3.length c0_3] 57 (0, 0)) (by (with_reducible repeat (first | refine blk_drewN ?_ _ | refine blk_drew ?_ | refine blk_alloc ?_ _)); exact BK1179.out) hb); have n1_ := Aside0.mk (blk_below (g := gb1186) (o := .cells #[.int .i64 t1182, .int .i64 t1183] 38 (0, 0)) (by (with_reducible repeat (first | refine blk_drewN ?_ _ | refine blk_drew ?_ | refine blk_alloc ?_ _)); exact BK1186.out) hb); have n2_ := Aside0.mk (below_step (by repeat (first | (with_reducible first | exact HB.out | apply below_alloc | apply pw_below_drewN | apply below_drew1 | refine below_set ?_ GE1179.out | refine below_set ?_ GE1186.out) | exact HB.out)) hb); have n3_ := Aside0.mk (hbox); have n4_ := Aside0.mk ((by rw [hg]; exact (below_size (by repeat (first | (with_reducible first | exact HB.out | apply below_alloc | apply pw_below_drewN | apply below_drew1 | refine below_set ?_ GE1179.out | refine below_set ?_ GE1186.out) | exact HB.out))) : w.heap.size ≤ gb1191)); have n5_ := Aside0.mk ((by rw [hg]; exact (below_size (by repeat (first | (with_reducible first | exact HB.out | apply below_alloc | apply pw_below_drewN | apply below_drew1 | refine below_set ?_ GE1179.out | refine below_set ?_ GE1186.out) | exact HB.out))) : w.heap.size ≤ gb1191)); have n6_ := Aside0.mk ((by rw [hg]; exact Nat.ne_of_lt (blk_lt (g := gb1179) (o := .cells #[.int .i64 a0_0, .slice A0_1 l0_1.length c0_1, .slice A0_2 l0_2.length c0_2, .slice A0_3 l0_3.length c0_3] 57 (0, 0)) (by (with_reducible repeat (first | refine blk_drewN ?_ _ | refine blk_drew ?_ | refine blk_alloc ?_ _)); exact BK1179.out)) : gb1179 ≠ gb1191)); have n7_ := Aside0.mk ((by rw [hg]; exact Nat.ne_of_gt (blk_lt (g := gb1179) (o := .cells #[.int .i64 a0_0, .slice A0_1 l0_1.length c0_1, .slice A0_2 l0_2.length c0_2, .slice A0_3 l0_3.length c0_3] 57 (0, 0)) (by (with_reducible repeat (first | refine blk_drewN ?_ _ | refine blk_drew ?_ | refine blk_alloc ?_ _)); exact BK1179.out)) : gb1191 ≠ gb1179)); have n8_ := Aside0.mk ((by rw [hg]; exact Nat.ne_of_lt (blk_lt (g := gb1186) (o := .cells #[.int .i64 t1182, .int .i64 t1183] 38 (0, 0)) (by (with_reducible repeat (first | refine blk_drewN ?_ _ | refine blk_drew ?_ | refine blk_alloc ?_ _)); exact BK1186.out)) : gb1186 ≠ gb1191)); have n9_ := Aside0.mk ((by rw [hg]; exact Nat.ne_of_gt (blk_lt (g := gb1186) (o := .cells #[.int .i64 t1182, .int .i64 t1183] 38 (0, 0)) (by (with_reducible repeat (first | refine blk_drewN ?_ _ | refine blk_drew ?_ | refine blk_alloc ?_ _)); exact BK1186.out)) : gb1191 ≠ gb1186)); clear BK1179; clear BK1186; clear HB; have BK1179 := n0_; have BK1186 := n1_; have HB := n2_; have BK1191 := n3_; have GW1191 := n4_; have GE1191 := n5_; have NB1179_1191 := n6_; have NB1191_1179 := n7_; have NB1186_1191 := n8_; have NB1191_1186 := n9_; clear n0_ n1_ n2_ n3_ n4_ n5_ n6_ n7_ n8_ n9_; clear hb hbox hg; have hnb45 := NB1191_1179.out; have hnc45 := NB1179_1191.out; have hnb46 := NB1191_1186.out; have hnc46 := NB1186_1191.out; have hcz47_0 : w44.cell? ⟨gb1191, 0, none⟩ = some (.int .i64 0) := (blk_cell BK1191.out 0).trans rfl; have hcz47_1 : w44.cell? ⟨gb1191, 1, none⟩ = some (.int .i64 0) := (blk_cell BK1191.out 1).trans rfl; have hfz47_0 := blk_frozen BK1191.out 0; have hfz47_1 := blk_frozen BK1191.out 1; have hcz48_0 : w44.cell? ⟨gb1186, 0, none⟩ = some (.int .i64 t1182) := (blk_cell BK1186.out 0).trans rfl; have hcz48_1 : w44.cell? ⟨gb1186, 1, none⟩ = some (.int .i64 t1183) := (blk_cell BK1186.out 1).trans rfl; have hfz48_0 := blk_frozen BK1186.out 0; have hfz48_1 := blk_frozen BK1186.out 1))
       go_ret
       exact ⟨by first | rfl | (simp [errW_none, errW_some] <;> rfl) | (simp [*, errW_none, errW_some] <;> rfl), by repeat (first | (with_reducible first | exact HB.out | apply below_alloc | apply pw_below_drewN | apply below_drew1 | refine below_set ?_ GE1179.out | refine below_set ?_ GE1186.out | refine below_set ?_ GE1191.out) | exact HB.out)⟩
     ·rw [if_neg c23] at H
      have c23b0 : (t1182 == t1187 && (t1183 == t1188)) = false := by simpa using c23
      (try (have c23b1 : decide (t1182 = t1187 && (t1183 == t1188)) = false := by simpa using c23))
      (try (have c23b2 : (t1182 == t1187 && (t1183 == t1188)) = false := by simpa using c23))
      (try (have c23b3 : ¬ (t1182 = t1187 && (t1183 == t1188)) := by simpa using c23))
      clear c23
      obtain rfl := Option.some.inj H
      have hcz49_0 : wc.cell? ⟨gb1179, 0, none⟩ = some (.int .i64 a0_0) := (blk_cell BK1179.out 0).trans rfl
      have hcz49_1 : wc.cell? ⟨gb1179, 1, none⟩ = some (.slice A0_1 l0_1.length c0_1) := (blk_cell BK1179.out 1).trans rfl
      have hcz49_2 : wc.cell? ⟨gb1179, 2, none⟩ = some (.slice A0_2 l0_2.length c0_2) := (blk_cell BK1179.out 2).trans rfl
      have hcz49_3 : wc.cell? ⟨gb1179, 3, none⟩ = some (.slice A0_3 l0_3.length c0_3) := (blk_cell BK1179.out 3).trans rfl
      have hfz49_0 := blk_frozen BK1179.out 0
      have hfz49_1 := blk_frozen BK1179.out 1
      have hfz49_2 := blk_frozen BK1179.out 2
      have hfz49_3 := blk_frozen BK1179.out 3
      go_wp2_with (first | ((with_reducible refine gate_callee (f := 45) rfl ?_); refine goesL_ (some 34) rfl rfl Try.func45 (by kernel_rfl) rfl #[.agg #[.int .i64 a0_0, .slice A0_1 l0_1.length c0_1, .slice A0_2 l0_2.length c0_2, .slice A0_3 l0_3.length c0_3], .int .i64 a1, .slice A2 l2.length c2] rfl (by (try simp only [List.map_toArray, List.map_cons, List.map_nil]); first | done | rfl | (simp only [List.length_drop, List.length_take]; rfl)) ?_; (with_reducible refine (rebuild_Finish.calls a0_0 _ _ l0_1 _ _ l0_2 _ _ l0_3 a1 _ _ l2 t1182 t1183 t1184 t1185 _ ?side1 ?side2 ?side3 ?side4 ?side5 ?side6 ?side7 ?side8 A21.out).mono ?_); (case side1 => repeat (first | exact (Kd.C_below HR0_1.out HB.out) | (with_reducible refine Kd.C_alloc ?_ _) | (with_reducible refine Kd.C_drewN ?_ _) | (with_reducible refine Kd.C_drew ?_))); (case side2 => exact HC0_1.out); (case side3 => repeat (first | exact (Kd.C_below HR0_2.out HB.out) | (with_reducible refine Kd.C_alloc ?_ _) | (with_reducible refine Kd.C_drewN ?_ _) | (with_reducible refine Kd.C_drew ?_))); (case side4 => exact HC0_2.out); (case side5 => repeat (first | exact (Kd.C_below HR0_3.out HB.out) | (with_reducible refine Kd.C_alloc ?_ _) | (with_reducible refine Kd.C_drewN ?_ _) | (with_reducible refine Kd.C_drew ?_))); (case side6 => exact HC0_3.out); (case side7 => repeat (first | exact (Kd.C_below HR2.out HB.out) | (with_reducible refine Kd.C_alloc ?_ _) | (with_reducible refine Kd.C_drewN ?_ _) | (with_reducible refine Kd.C_drew ?_))); (case side8 => exact HC2.out); rintro e w50 ⟨rfl, hb⟩; refine ⟨_, rfl, ?_⟩; have n0_ := Aside0.mk (blk_below (g := gb1179) (o := .cells #[.int .i64 a0_0, .slice A0_1 l0_1.length c0_1, .slice A0_2 l0_2.length c0_2, .slice A0_3 l0_3.length c0_3] 57 (0, 0)) (by (with_reducible repeat (first | refine blk_drewN ?_ _ | refine blk_drew ?_ | refine blk_alloc ?_ _)); exact BK1179.out) hb); have n1_ := Aside0.mk (below_step (by repeat (first | (with_reducible first | exact HB.out | apply below_alloc | apply pw_below_drewN | apply below_drew1 | refine below_set ?_ GE1179.out) | exact HB.out)) hb); clear BK1179; clear HB; have BK1179 := n0_; have HB := n1_; clear n0_ n1_; (try clear hb); (try clear hb2); (try clear hk); (try clear hi)) | ((with_reducible refine gate_dst (N := 7) rfl ?_); (try (refine gate_guard (by rfl) ?_; dsimp only)); refine box_event ?hg (N := 7) ?hd (cs := #[.int .i64 0, .int .i64 0]) (t := 38) ?hr ?_; (case hd => rfl); (case hg => rfl); (case hr => first | (go_simp; done) | (go_simp; rfl)); intro gb1186 hg w51 hbox hb; have n0_ := Aside0.mk (blk_below (g := gb1179) (o := .cells #[.int .i64 a0_0, .slice A0_1 l0_1.length c0_1, .slice A0_2 l0_2.length c0_2, .slice A0_3 l0_3.length c0_3] 57 (0, 0)) (by (with_reducible repeat (first | refine blk_drewN ?_ _ | refine blk_drew ?_ | refine blk_alloc ?_ _)); exact BK1179.out) hb); have n1_ := Aside0.mk (below_step (by repeat (first | (with_reducible first | exact HB.out | apply below_alloc | apply pw_below_drewN | apply below_drew1 | refine below_set ?_ GE1179.out) | exact HB.out)) hb); have n2_ := Aside0.mk (hbox); have n3_ := Aside0.mk ((by rw [hg]; exact (below_size (by repeat (first | (with_reducible first | exact HB.out | apply below_alloc | apply pw_below_drewN | apply below_drew1 | refine below_set ?_ GE1179.out) | exact HB.out))) : w.heap.size ≤ gb1186)); have n4_ := Aside0.mk ((by rw [hg]; exact (below_size (by repeat (first | (with_reducible first | exact HB.out | apply below_alloc | apply pw_below_drewN | apply below_drew1 | refine below_set ?_ GE1179.out) | exact HB.out))) : w.heap.size ≤ gb1186)); have n5_ := Aside0.mk ((by rw [hg]; exact Nat.ne_of_lt (blk_lt (g := gb1179) (o := .cells #[.int .i64 a0_0, .slice A0_1 l0_1.length c0_1, .slice A0_2 l0_2.length c0_2, .slice A0_3 l0_3.length c0_3] 57 (0, 0)) (by (with_reducible repeat (first | refine blk_drewN ?_ _ | refine blk_drew ?_ | refine blk_alloc ?_ _)); exact BK1179.out)) : gb1179 ≠ gb1186)); have n6_ := Aside0.mk ((by rw [hg]; exact Nat.ne_of_gt (blk_lt (g := gb1179) (o := .cells #[.int .i64 a0_0, .slice A0_1 l0_1.length c0_1, .slice A0_2 l0_2.length c0_2, .slice A0_3 l0_3.length c0_3] 57 (0, 0)) (by (with_reducible repeat (first | refine blk_drewN ?_ _ | refine blk_drew ?_ | refine blk_alloc ?_ _)); exact BK1179.out)) : gb1186 ≠ gb1179)); clear BK1179; clear HB; have BK1179 := n0_; have HB := n1_; have BK1186 := n2_; have GW1186 := n3_; have GE1186 := n4_; have NB1179_1186 := n5_; have NB1186_1179 := n6_; clear n0_ n1_ n2_ n3_ n4_ n5_ n6_; clear hb hbox hg; have hnb52 := NB1186_1179.out; have hnc52 := NB1179_1186.out; have hcz53_0 : w51.cell? ⟨gb1186, 0, none⟩ = some (.int .i64 0) := (blk_cell BK1186.out 0).trans rfl; have hcz53_1 : w51.cell? ⟨gb1186, 1, none⟩ = some (.int .i64 0) := (blk_cell BK1186.out 1).trans rfl; have hfz53_0 := blk_frozen BK1186.out 0; have hfz53_1 := blk_frozen BK1186.out 1; have hcz54_0 : w51.cell? ⟨gb1179, 0, none⟩ = some (.int .i64 a0_0) := (blk_cell BK1179.out 0).trans rfl; have hcz54_1 : w51.cell? ⟨gb1179, 1, none⟩ = some (.slice A0_1 l0_1.length c0_1) := (blk_cell BK1179.out 1).trans rfl; have hcz54_2 : w51.cell? ⟨gb1179, 2, none⟩ = some (.slice A0_2 l0_2.length c0_2) := (blk_cell BK1179.out 2).trans rfl; have hcz54_3 : w51.cell? ⟨gb1179, 3, none⟩ = some (.slice A0_3 l0_3.length c0_3) := (blk_cell BK1179.out 3).trans rfl; have hfz54_0 := blk_frozen BK1179.out 0; have hfz54_1 := blk_frozen BK1179.out 1; have hfz54_2 := blk_frozen BK1179.out 2; have hfz54_3 := blk_frozen BK1179.out 3) | ((with_reducible refine gate_callee (f := 46) rfl ?_); refine goesL_ (some 42) rfl rfl Try.func46 (by kernel_rfl) rfl #[.agg #[.int .i64 a0_0, .slice A0_1 l0_1.length c0_1, .slice A0_2 l0_2.length c0_2, .slice A0_3 l0_3.length c0_3], .int .i64 a1, .slice A2 l2.length c2] rfl (by (try simp only [List.map_toArray, List.map_cons, List.map_nil]); first | done | rfl | (simp only [List.length_drop, List.length_take]; rfl)) ?_; (with_reducible refine (signatoryref40_Finish.calls kj5 a0_0 _ _ l0_1 _ _ l0_2 _ _ l0_3 a1 _ _ l2 t1187 t1188 t1189 t1190 _ ?side1 ?side2 ?side3 ?side4 ?side5 ?side6 ?side7 ?side8 A22.out).mono ?_); (case side1 => exact Kd.C_below HR0_1.out (by repeat (first | (with_reducible first | exact HB.out | apply below_alloc | apply pw_below_drewN | apply below_drew1 | refine below_set ?_ GE1179.out | refine below_set ?_ GE1186.out) | exact HB.out))); (case side2 => exact HC0_1.out); (case side3 => exact Kd.C_below HR0_2.out (by repeat (first | (with_reducible first | exact HB.out | apply below_alloc | apply pw_below_drewN | apply below_drew1 | refine below_set ?_ GE1179.out | refine below_set ?_ GE1186.out) | exact HB.out))); (case side4 => exact HC0_2.out); (case side5 => exact Kd.C_below HR0_3.out (by repeat (first | (with_reducible first | exact HB.out | apply below_alloc | apply pw_below_drewN | apply below_drew1 | refine below_set ?_ GE1179.out | refine below_set ?_ GE1186.out) | exact HB.out))); (case side6 => exact HC0_3.out); (case side7 => exact Kd.C_below HR2.out (by repeat (first | (with_reducible first | exact HB.out | apply below_alloc | apply pw_below_drewN | apply below_drew1 | refine below_set ?_ GE1179.out | refine below_set ?_ GE1186.out) | exact HB.out))); (case side8 => exact HC2.out); rintro e w55 ⟨rfl, hb⟩; refine ⟨_, rfl, ?_⟩; have n0_ := Aside0.mk (blk_below (g := gb1179) (o := .cells #[.int .i64 a0_0, .slice A0_1 l0_1.length c0_1, .slice A0_2 l0_2.length c0_2, .slice A0_3 l0_3.length c0_3] 57 (0, 0)) (by (with_reducible repeat (first | refine blk_drewN ?_ _ | refine blk_drew ?_ | refine blk_alloc ?_ _)); refine blk_far ?_ NB1179_1186.out _; (with_reducible repeat (first | refine blk_drewN ?_ _ | refine blk_drew ?_ | refine blk_alloc ?_ _)); refine blk_far ?_ NB1179_1186.out _; (with_reducible repeat (first | refine blk_drewN ?_ _ | refine blk_drew ?_ | refine blk_alloc ?_ _)); exact BK1179.out) hb); have n1_ := Aside0.mk (blk_below (g := gb1186) (o := .cells #[.int .i64 t1182, .int .i64 t1183] 38 (0, 0)) (by (with_reducible repeat (first | refine blk_drewN ?_ _ | refine blk_drew ?_ | refine blk_alloc ?_ _)); refine blk_put (cs := #[.int .i64 t1182, .int .i64 0]) ?_ 1 _ rfl; (with_reducible repeat (first | refine blk_drewN ?_ _ | refine blk_drew ?_ | refine blk_alloc ?_ _)); refine blk_put (cs := #[.int .i64 0, .int .i64 0]) ?_ 0 _ rfl; (with_reducible repeat (first | refine blk_drewN ?_ _ | refine blk_drew ?_ | refine blk_alloc ?_ _)); exact BK1186.out) hb); have n2_ := Aside0.mk (below_step (by repeat (first | (with_reducible first | exact HB.out | apply below_alloc | apply pw_below_drewN | apply below_drew1 | refine below_set ?_ GE1179.out | refine below_set ?_ GE1186.out) | exact HB.out)) hb); clear BK1179; clear BK1186; clear HB; have BK1179 := n0_; have BK1186 := n1_; have HB := n2_; clear n0_ n1_ n2_; (try clear hb); (try clear hb2); (try clear hk); (try clear hi)) | ((with_reducible refine gate_dst (N := 10) rfl ?_); (try (refine gate_guard (by rfl) ?_; dsimp only)); refine box_event ?hg (N := 10) ?hd (cs := #[.int .i64 0, .int .i64 0]) (t := 38) ?hr ?_; (case hd => rfl); (case hg => rfl); (case hr => first | (go_simp; done) | (go_simp; rfl)); intro gb1191 hg w56 hbox hb; have n0_ := Aside0.mk (blk_below (g := gb1179) (o := .cells #[.int .i64 a0_0, .slice A0_1 l0_1.length c0_1, .slice A0_2 l0_2.length c0_2, .slice A0_3 l0_3.length c0_3] 57 (0, 0)) (by (with_reducible repeat (first | refine blk_drewN ?_ _ | refine blk_drew ?_ | refine blk_alloc ?_ _)); exact BK1179.out) hb); have n1_ := Aside0.mk (blk_below (g := gb1186) (o := .cells #[.int .i64 t1182, .int .i64 t1183] 38 (0, 0)) (by (with_reducible repeat (first | refine blk_drewN ?_ _ | refine blk_drew ?_ | refine blk_alloc ?_ _)); exact BK1186.out) hb); have n2_ := Aside0.mk (below_step (by repeat (first | (with_reducible first | exact HB.out | apply below_alloc | apply pw_below_drewN | apply below_drew1 | refine below_set ?_ GE1179.out | refine below_set ?_ GE1186.out) | exact HB.out)) hb); have n3_ := Aside0.mk (hbox); have n4_ := Aside0.mk ((by rw [hg]; exact (below_size (by repeat (first | (with_reducible first | exact HB.out | apply below_alloc | apply pw_below_drewN | apply below_drew1 | refine below_set ?_ GE1179.out | refine below_set ?_ GE1186.out) | exact HB.out))) : w.heap.size ≤ gb1191)); have n5_ := Aside0.mk ((by rw [hg]; exact (below_size (by repeat (first | (with_reducible first | exact HB.out | apply below_alloc | apply pw_below_drewN | apply below_drew1 | refine below_set ?_ GE1179.out | refine below_set ?_ GE1186.out) | exact HB.out))) : w.heap.size ≤ gb1191)); have n6_ := Aside0.mk ((by rw [hg]; exact Nat.ne_of_lt (blk_lt (g := gb1179) (o := .cells #[.int .i64 a0_0, .slice A0_1 l0_1.length c0_1, .slice A0_2 l0_2.length c0_2, .slice A0_3 l0_3.length c0_3] 57 (0, 0)) (by (with_reducible repeat (first | refine blk_drewN ?_ _ | refine blk_drew ?_ | refine blk_alloc ?_ _)); exact BK1179.out)) : gb1179 ≠ gb1191)); have n7_ := Aside0.mk ((by rw [hg]; exact Nat.ne_of_gt (blk_lt (g := gb1179) (o := .cells #[.int .i64 a0_0, .slice A0_1 l0_1.length c0_1, .slice A0_2 l0_2.length c0_2, .slice A0_3 l0_3.length c0_3] 57 (0, 0)) (by (with_reducible repeat (first | refine blk_drewN ?_ _ | refine blk_drew ?_ | refine blk_alloc ?_ _)); exact BK1179.out)) : gb1191 ≠ gb1179)); have n8_ := Aside0.mk ((by rw [hg]; exact Nat.ne_of_lt (blk_lt (g := gb1186) (o := .cells #[.int .i64 t1182, .int .i64 t1183] 38 (0, 0)) (by (with_reducible repeat (first | refine blk_drewN ?_ _ | refine blk_drew ?_ | refine blk_alloc ?_ _)); exact BK1186.out)) : gb1186 ≠ gb1191)); have n9_ := Aside0.mk ((by rw [hg]; exact Nat.ne_of_gt (blk_lt (g := gb1186) (o := .cells #[.int .i64 t1182, .int .i64 t1183] 38 (0, 0)) (by (with_reducible repeat (first | refine blk_drewN ?_ _ | refine blk_drew ?_ | refine blk_alloc ?_ _)); exact BK1186.out)) : gb1191 ≠ gb1186)); clear BK1179; clear BK1186; clear HB; have BK1179 := n0_; have BK1186 := n1_; have HB := n2_; have BK1191 := n3_; have GW1191 := n4_; have GE1191 := n5_; have NB1179_1191 := n6_; have NB1191_1179 := n7_; have NB1186_1191 := n8_; have NB1191_1186 := n9_; clear n0_ n1_ n2_ n3_ n4_ n5_ n6_ n7_ n8_ n9_; clear hb hbox hg; have hnb57 := NB1191_1179.out; have hnc57 := NB1179_1191.out; have hnb58 := NB1191_1186.out; have hnc58 := NB1186_1191.out; have hcz59_0 : w56.cell? ⟨gb1191, 0, none⟩ = some (.int .i64 0) := (blk_cell BK1191.out 0).trans rfl; have hcz59_1 : w56.cell? ⟨gb1191, 1, none⟩ = some (.int .i64 0) := (blk_cell BK1191.out 1).trans rfl; have hfz59_0 := blk_frozen BK1191.out 0; have hfz59_1 := blk_frozen BK1191.out 1; have hcz60_0 : w56.cell? ⟨gb1186, 0, none⟩ = some (.int .i64 t1182) := (blk_cell BK1186.out 0).trans rfl; have hcz60_1 : w56.cell? ⟨gb1186, 1, none⟩ = some (.int .i64 t1183) := (blk_cell BK1186.out 1).trans rfl; have hfz60_0 := blk_frozen BK1186.out 0; have hfz60_1 := blk_frozen BK1186.out 1))
      go_ret
      exact ⟨by first | rfl | (simp [errW_none, errW_some] <;> rfl) | (simp [*, errW_none, errW_some] <;> rfl), by repeat (first | (with_reducible first | exact HB.out | apply below_alloc | apply pw_below_drewN | apply below_drew1 | refine below_set ?_ GE1179.out | refine below_set ?_ GE1186.out | refine below_set ?_ GE1191.out) | exact HB.out)⟩
 ·replace c5 := Bool.eq_false_iff.mpr c5
  subst c5
  have H1 : (some false) = some r := by rw [if_neg (show ¬ (false = true) by decide)] at H; exact H
  clear H
  have H := H1
  clear H1
  obtain rfl := Option.some.inj H
  go_enter Try.func8, Try.ntmps8
  go_wp2_with (first | ((with_reducible refine gate_dst (N := 3) rfl ?_); (try (refine gate_guard (by rfl) ?_; dsimp only)); refine box_event ?hg (N := 3) ?hd (cs := #[.int .i64 a0_0, .slice A0_1 l0_1.length c0_1, .slice A0_2 l0_2.length c0_2, .slice A0_3 l0_3.length c0_3]) (t := 57) ?hr ?_; (case hd => rfl); (case hg => rfl); (case hr => first | (go_simp; done) | (go_simp; rfl)); intro gb1179 hg w61 hbox hb; have n0_ := Aside0.mk (below_step (by repeat (first | (with_reducible first | exact HB.out | apply below_alloc | apply pw_below_drewN | apply below_drew1) | exact HB.out)) hb); have n1_ := Aside0.mk (hbox); have n2_ := Aside0.mk ((by rw [hg]; exact (below_size (by repeat (first | (with_reducible first | exact HB.out | apply below_alloc | apply pw_below_drewN | apply below_drew1) | exact HB.out))) : w.heap.size ≤ gb1179)); have n3_ := Aside0.mk ((by rw [hg]; exact (below_size (by repeat (first | (with_reducible first | exact HB.out | apply below_alloc | apply pw_below_drewN | apply below_drew1) | exact HB.out))) : w.heap.size ≤ gb1179)); clear HB; have HB := n0_; have BK1179 := n1_; have GW1179 := n2_; have GE1179 := n3_; clear n0_ n1_ n2_ n3_; clear hb hbox hg) | ((with_reducible refine gate_callee (f := 38) rfl ?_); refine goesL_ (some 13) rfl rfl Try.func38 (by kernel_rfl) rfl #[] rfl (by (try simp only [List.map_toArray, List.map_cons, List.map_nil]); first | done | rfl | (simp only [List.length_drop, List.length_take]; rfl)) ?_; (with_reducible refine (signatorylaw40_sane.calls  false _ A4.out).mono ?_); rintro e w62 ⟨rfl, hb⟩; refine ⟨_, rfl, ?_⟩; have n0_ := Aside0.mk (blk_below (g := gb1179) (o := .cells #[.int .i64 a0_0, .slice A0_1 l0_1.length c0_1, .slice A0_2 l0_2.length c0_2, .slice A0_3 l0_3.length c0_3] 57 (0, 0)) (by (with_reducible repeat (first | refine blk_drewN ?_ _ | refine blk_drew ?_ | refine blk_alloc ?_ _)); exact BK1179.out) hb); have n1_ := Aside0.mk (below_step (by repeat (first | (with_reducible first | exact HB.out | apply below_alloc | apply pw_below_drewN | apply below_drew1 | refine below_set ?_ GE1179.out) | exact HB.out)) hb); clear BK1179; clear HB; have BK1179 := n0_; have HB := n1_; clear n0_ n1_; (try clear hb); (try clear hb2); (try clear hk); (try clear hi)))
  go_ret
  exact ⟨by first | rfl | (simp [errW_none, errW_some] <;> rfl) | (simp [*, errW_none, errW_some] <;> rfl), by repeat (first | (with_reducible first | exact HB.out | apply below_alloc | apply pw_below_drewN | apply below_drew1 | refine below_set ?_ GE1179.out) | exact HB.out)⟩
end Go.Proofs.Ytdbamhckgaoibaa.P
namespace Go.Proofs.Ytdbamhckgaoibaa.P
open Go.RowKit Go.Proofs.YtdbamhckgaoibaaW.PrintWords Go.Proofs.YtdbamhckgaoibaaW.PrintLast Go.Proofs.YtdbamhckgaoibaaW.PrintMore
theorem rebuildFinishSpec_true (ep : Int) (rows : List (List Int)) (owners cm : List Int) (row : Int) (parts : List Int) : signatorylaw40_RebuildFinishSpec.f 7000 ep rows owners cm row parts = some true := by
  have hT : signatorylaw40_RebuildFinishSpec.j0 7000 row parts true ep rows owners cm = some true := by rw [signatorylaw40_RebuildFinishSpec.j0, if_pos rfl]
  unfold signatorylaw40_RebuildFinishSpec.f
  rw [show signatorylaw40_sane.f = some true from rfl, Option.bind_some, if_pos rfl]
  obtain ⟨b, hb⟩ := few40_some rows owners 7000 (by omega)
  rw [hb, Option.bind_some]
  cases b with
  | false => rw [if_neg (by decide)]; exact hT
  | true =>
    rw [if_pos rfl]
    by_cases h : (cm.length : Int) > 100
    · rw [if_pos h]; exact hT
    · rw [if_neg h]
      by_cases h2 : (parts.length : Int) > 100
      · rw [decide_eq_true h2]; exact hT
      · rw [decide_eq_false h2, signatorylaw40_RebuildFinishSpec.j0, if_neg (by decide)]
        unfold rebuild_Finish.f
        rw [Option.bind_some, finish40_math ep rows owners cm row parts (by omega) (by omega) _ (by omega), Option.bind_some, beq_self_eq_true, beq_self_eq_true, Bool.and_self, if_pos rfl, beq_self_eq_true, if_pos rfl, beq_self_eq_true]
end Go.Proofs.Ytdbamhckgaoibaa.P
