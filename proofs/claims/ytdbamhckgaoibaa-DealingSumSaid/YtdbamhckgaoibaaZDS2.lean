/- A part of the proof of DealingSum: linear.clear takes away from a row the multiple of another one.; What linear.reduce needs beside its walk: the marks of ranges over functions, rows of one's own, the order of the eliminations.; slices.Collect over an iterator that yields known slices.; slices.ContainsFunc with the program's own predicates tells whether one of the elements meets the predicate.; dealing.sum, dealing.times.; dealing.rows: the rows of shares, in turn.; linear.reduce brings the table into its form. -/
import Derived.Test.YtdbamhckgaoibaaZDS1
import Derived.OwnWalkIn
import Derived.RangeFuncWrites
import Derived.Shelf.Abstract
import Derived.Sort.LoopGhostIn
namespace Go.Proofs.Ytdbamhckgaoibaa.P
open Go.RowKit Go.Proofs.YtdbamhckgaoibaaW.PrintWords Go.Proofs.YtdbamhckgaoibaaW.PrintLast Go.Proofs.YtdbamhckgaoibaaW.PrintMore
attribute [local go_sem] Oper.semAt_some
set_option linter.unusedVariables false
set_option linter.unusedSimpArgs false
theorem after_c (A : Option Addr) (n c : Nat) (col : Int) (w : World) : Calls Try.prog 185 #[.slice A n c, .int .i64 col] w fun e w' =>
    e = .returned (.func (.func 206) #[] #[.pointer (some ⟨w.heap.size + 1, 0, none⟩), .pointer (some ⟨w.heap.size, 0, none⟩)]) ∧ w' = (w.alloc (.cells #[.slice A n c] 23)).alloc (.cells #[.int .i64 col] 3) := by
  go_enter Try.func185, Try.ntmps185
  go_wp2
  go_ret
  exact ⟨by first | rfl | (simp; done) | (simp; rfl), rfl⟩
set_option maxHeartbeats 1000000 in
theorem after1_in {l : Nat} {J : Nat → World → Prop} {bcol brow br col L cap : Nat} {x : Nat → Int} (hL : L ≤ 9223372036854775807)
    (hJ : ∀ k W, J k W → Bx W bcol (.int .i64 (col : Int)) ∧ Bx W brow (.slice (some ⟨br, 0, none⟩) L cap) ∧ (k < L → W.cell? ⟨br, k, none⟩ = some (.int .i64 (x k))))
    (hY : ∀ k W, k < L → J k W → YieldAt Fence.wide 7 Try.prog l #[.int .i64 (k : Int), .int .i64 (x k)] W fun e W' => e = .returned (.bool true) ∧ J (k + 1) W')
    (hc : col ≤ L) (W : World) (h0 : J col W) :
    CallsIn Fence.wide 8 Try.prog 206 #[.func (.yield l) #[] #[], .pointer (some ⟨bcol, 0, none⟩), .pointer (some ⟨brow, 0, none⟩)] W fun e W' => (∃ v, e = .returned v) ∧ J L W' := by
  refine callsIn_of_wp Try.func206 rfl trivial ?_ rfl
  simp only [Try.ntmps206, List.size_toArray, List.length_cons, List.length_nil, Nat.reduceAdd, Nat.reduceSub, Array.replicate_succ, Array.replicate_zero, List.push_toArray, List.append_toArray, List.nil_append, List.cons_append]
  obtain ⟨⟨c1, c2⟩, _, _⟩ := hJ _ _ h0
  gi_wp2
  gi_loopg [4] (L - col) (fun gk v4 wr => ∃ k : Nat, k ≤ L ∧ gk = L - k ∧ v4 = .int .i64 (k : Int) ∧ J k wr)
  case atStart => exact ⟨col, hc, rfl, rfl, h0⟩
  case round =>
    obtain ⟨k, hk, rfl, rfl, hj⟩ := hrel
    obtain ⟨_, ⟨r1, r2⟩, r3⟩ := hJ _ _ hj
    by_cases hlt : k < L
    · have b1 : decide ((k : Int) < (L : Int)) = true := decide_eq_true (by omega)
      have b2 : decide (k < L) = true := decide_eq_true hlt
      have b3 : (0 : Int) ≤ (k : Int) := by omega
      have r4 := r3 hlt
      obtain ⟨fn, tmps, assign, body, hy, hR⟩ := hY k wr hlt hj
      clear r3
      gi_wp2
      refine hR.mono ?_
      rintro e W' ⟨rfl, hj2⟩
      clear r1 r2 r4
      gi_wp2
      gi_roundg (L - (k + 1))
      case measure => omega
      case rel => exact ⟨k + 1, by omega, rfl, by go_num, hj2⟩
    · have b1 : decide ((k : Int) < (L : Int)) = false := decide_eq_false (by omega)
      have b2 : decide (k < L) = false := decide_eq_false hlt
      obtain rfl : k = L := by omega
      gi_wp2
      go_end0
      exact ⟨⟨_, rfl⟩, hj⟩
theorem less_zero {a b : List Int} (ha : ∀ x ∈ a, Sig.InF x) (h : a.length = b.length) : Sig.less a b 0 = a := by
  apply List.ext_getElem
  · exact Sig.less_length h
  · intro i h1 h2
    have hx := ha _ (List.getElem_mem h2)
    unfold Sig.InF at hx
    have e : (Sig.less a b 0)[i] = (a[i] - 0 * b[i]'(by omega)) % 1073741789 := List.getElem_zipWith
    rw [e]
    omega
theorem set_self_row (t : List (List Int)) (i : Nat) : t.set i (t.getD i []) = t := by
  apply List.ext_getElem
  · simp
  · intro k h1 h2
    rw [List.getElem_set]
    split
    · rename_i e; subst e; rw [List.getD_eq_getElem?_getD, List.getElem?_eq_getElem h2]; rfl
    · rfl
def mixRow (a b : List Int) (k : Nat) : List Int := b.take k ++ a.drop k
theorem mixRow_length {a b : List Int} {k : Nat} (h : a.length = b.length) : (mixRow a b k).length = a.length := by simp [mixRow]; omega
theorem mixRow_at {a b : List Int} {k j : Nat} (h : a.length = b.length) (hj : j < a.length) : (mixRow a b k).getD j 0 = if j < k then b.getD j 0 else a.getD j 0 := by
  unfold mixRow
  rw [List.getD_eq_getElem?_getD, List.getElem?_append]
  have hl : (b.take k).length = min k b.length := List.length_take
  by_cases e : j < k
  · rw [if_pos (by omega), if_pos e, List.getElem?_take_of_lt e, ← List.getD_eq_getElem?_getD]
  · rw [if_neg (by omega), if_neg e, List.getElem?_drop, List.getD_eq_getElem?_getD]
    congr 2
    omega
theorem mixRow_set {a b : List Int} {k : Nat} (h : a.length = b.length) (hk : k < a.length) : (mixRow a b k).set k (b.getD k 0) = mixRow a b (k + 1) := by
  have e : ∀ (l : List Int) j, j < l.length → l[j]? = some (l.getD j 0) := fun l j hj => by rw [List.getD_eq_getElem?_getD, List.getElem?_eq_getElem hj]; rfl
  apply List.ext_getElem?
  intro j
  rcases Nat.lt_or_ge j a.length with hj | hj
  · rw [e _ j (by rw [List.length_set, mixRow_length h]; exact hj), e _ j (by rw [mixRow_length h]; exact hj), Sig.getD_set_int, mixRow_at h hj, mixRow_at h hj, mixRow_length h]
    congr 1
    by_cases e1 : k = j
    · subst e1; rw [if_pos ⟨rfl, hk⟩, if_pos (by omega)]
    · rw [if_neg (fun h' => e1 h'.1)]
      by_cases e2 : j < k
      · rw [if_pos e2, if_pos (by omega)]
      · rw [if_neg e2, if_neg (by omega)]
  · rw [List.getElem?_eq_none (by rw [List.length_set, mixRow_length h]; exact hj), List.getElem?_eq_none (by rw [mixRow_length h]; exact hj)]
theorem mixRow_all {a b : List Int} (h : a.length = b.length) : mixRow a b a.length = b := by
  unfold mixRow
  rw [List.drop_of_length_le (Nat.le_refl _), List.append_nil, List.take_of_length_le (by omega)]
theorem mixRow_start {a b : List Int} {k : Nat} (h : a.length = b.length) (he : ∀ d, d < k → d < a.length → b.getD d 0 = a.getD d 0) : mixRow a b k = a := by
  have e : ∀ (l : List Int) j, j < l.length → l[j]? = some (l.getD j 0) := fun l j hj => by rw [List.getD_eq_getElem?_getD, List.getElem?_eq_getElem hj]; rfl
  apply List.ext_getElem?
  intro j
  rcases Nat.lt_or_ge j a.length with hj | hj
  · rw [e _ j (by rw [mixRow_length h]; exact hj), e _ j hj, mixRow_at h hj]
    congr 1
    split
    · exact he j (by omega) hj
    · rfl
  · rw [List.getElem?_eq_none (by rw [mixRow_length h]; exact hj), List.getElem?_eq_none hj]
theorem less_start {a b : List Int} {n : Int} {k : Nat} (ha : ∀ x ∈ a, Sig.InF x) (h : a.length = b.length) (hz : ∀ d, d < k → b.getD d 0 = 0) : mixRow a (Sig.less a b n) k = a := by
  refine mixRow_start (Sig.less_length h).symm fun d hd hd2 => ?_
  have hx := Sig.getD_inF ha d
  unfold Sig.InF at hx
  rw [Sig.less_getD h hd2, hz d hd]
  omega
def CI (w : World) (base g : Nat) (bs : List Nat) (t : List (List Int)) (i : Nat) (a b : List Int) (B4 B5 B8 B9 B10 : Nat) (v4 v5 v8 v9 v10 : Value) (k : Nat) (W : World) : Prop :=
  Tab W base g bs (t.set i (mixRow a b k)) ∧ Bx W B4 v4 ∧ Bx W B5 v5 ∧ Bx W B8 v8 ∧ Bx W B9 v9 ∧ Bx W B10 v10 ∧ Chg (fun k => k = bs.getD i 0) w W
set_option maxHeartbeats 2000000 in
theorem clear_zero (w : World) (base g cap : Nat) (bs : List Nat) (t : List (List Int)) (i bY c n : Nat) (hT : Tab w base g bs t) (hi : i < t.length) (hn : (t.getD i []).length = n) (hc : c < n) (hz : Sig.ent t i c = 0) (hb : base ≤ w.heap.size) (hcap : t.length ≤ cap) :
    Calls Try.prog 186 #[.slice (some ⟨g, 0, none⟩) t.length cap, .int .i64 (i : Int), .int .i64 (bY : Int), .int .i64 (c : Int)] w fun e w' => e = .returned (.tuple #[]) ∧ Below w.heap.size w w' := by
  obtain ⟨⟨cr, m1, m2⟩, m3⟩ := hT.main i hi
  obtain ⟨q1, q2⟩ := hT.rows i hi c (by omega)
  have q3 : (t.getD i []).getD c 0 = 0 := hz
  rw [q3] at q1
  rw [hn] at m2
  have f1 : (0 : Int) ≤ (i : Int) := by omega
  have f2 : decide (i < t.length) = true := decide_eq_true hi
  have f3 : (i : Int) < (t.length : Int) := by omega
  have f4 : (0 : Int) ≤ (c : Int) := by omega
  have f5 : (c : Int) < (n : Int) := by omega
  have f6 : decide (c < n) = true := decide_eq_true hc
  have hg := World.block_lt_of_cell? w _ m2
  have hg2 := World.block_lt_of_cell? w _ q1
  clear q3 hz m3 q2 hT hn hc
  generalize bs.getD i 0 = bi at m2 q1 hg2
  go_enter Try.func186, Try.ntmps186
  go_wp2
  exact bodyPost_ret (results_none rfl _ _ _) rfl ⟨rfl, (((Below.refl _ w).alloc (Nat.le_refl _) _).alloc (by simp) _).alloc (by simp; omega) _⟩
theorem keeps_below {W W' : World} (h : Below W.heap.size W W') : KeepsOthers W W' := ⟨h.size, fun k o hk _ => (h.block k (Array.getElem?_eq_some_iff.1 hk).1).trans hk⟩
theorem neg_wrap (a y : Int) : (a + wrap64 (-(y % 1073741789))) % 1073741789 = (a - y) % 1073741789 := by
  have h1 : 0 ≤ y % 1073741789 ∧ y % 1073741789 < 1073741789 := by omega
  have h2 : wrap64 (-(y % 1073741789)) = -(y % 1073741789) := by unfold wrap64; omega
  rw [h2]
  omega
theorem CI.own (w : World) (base g : Nat) (bs : List Nat) (t : List (List Int)) (i : Nat) (a b : List Int) (B4 B5 B8 B9 B10 : Nat) (v4 v5 v8 v9 v10 : Value) {B : Nat} (hB : w.heap.size ≤ B) :
    OwnFrom B (CI w base g bs t i a b B4 B5 B8 B9 B10 v4 v5 v8 v9 v10) := by
  rintro k W W' row ⟨h0, h1, h2, h3, h4, h5, h6⟩ hg hr
  have hr' : ∀ r, row = some r → ∃ o : Obj, W.heap[r]? = some o ∧ o.isCells = false := fun r e => (hr r e).2
  exact ⟨h0.kept hg hr', h1.kept hg hr', h2.kept hg hr', h3.kept hg hr', h4.kept hg hr', h5.kept hg hr', h6.then_grown hg (fun k e => .inr (Nat.le_trans hB (hr k e).1))⟩
set_option maxRecDepth 100000 in
set_option maxHeartbeats 4000000 in
theorem clear_some (w : World) (base g cap : Nat) (bs : List Nat) (t : List (List Int)) (i bY c n : Nat) (hT : Tab w base g bs t) (hR : Sig.Rect t n) (hi : i < t.length) (hy : bY < t.length) (hne : i ≠ bY) (hc : c < n) (hn2 : n ≤ 9223372036854775807)
    (hz : ∀ d, d < c → Sig.ent t bY d = 0) (hb : base ≤ w.heap.size) (hz0 : Sig.ent t i c ≠ 0) :
    Calls Try.prog 186 #[.slice (some ⟨g, 0, none⟩) t.length cap, .int .i64 (i : Int), .int .i64 (bY : Int), .int .i64 (c : Int)] w fun e w' => e = .returned (.tuple #[]) ∧
      Tab w' base g bs (t.set i (Sig.less (t.getD i []) (t.getD bY []) (Sig.ent t i c))) ∧ Chg (fun k => k = bs.getD i 0) w w' := by
  have hni := (hR _ (Sig.getD_mem hi)).1
  have hny := (hR _ (Sig.getD_mem hy)).1
  have hIi := (hR _ (Sig.getD_mem hi)).2
  obtain ⟨⟨cr, m1, m2⟩, m3⟩ := hT.main i hi
  obtain ⟨⟨cy, y1, y2⟩, y3⟩ := hT.main bY hy
  obtain ⟨q1, q2⟩ := hT.rows i hi c (by omega)
  have HLs := Aside0.mk (less_start (n := Sig.ent t i c) hIi (hni.trans hny.symm) hz)
  have hlen : (t.getD i []).length = (Sig.less (t.getD i []) (t.getD bY []) (Sig.ent t i c)).length := (Sig.less_length (hni.trans hny.symm)).symm
  have hLx : ∀ k, k < n → (Sig.less (t.getD i []) (t.getD bY []) (Sig.ent t i c)).getD k 0 = ((t.getD i []).getD k 0 - Sig.ent t i c * (t.getD bY []).getD k 0) % 1073741789 := fun k hk => Sig.less_getD (hni.trans hny.symm) (by omega)
  generalize hlL : Sig.less (t.getD i []) (t.getD bY []) (Sig.ent t i c) = L at *
  have q0 : (t.getD i []).getD c 0 = Sig.ent t i c := rfl
  rw [q0] at q1
  generalize Sig.ent t i c = nv at *
  rw [hni] at m2
  rw [hny] at y2
  have f1 : (0 : Int) ≤ (i : Int) := by omega
  have f2 : decide (i < t.length) = true := decide_eq_true hi
  have f3 : (i : Int) < (t.length : Int) := by omega
  have f4 : (0 : Int) ≤ (c : Int) := by omega
  have f5 : (c : Int) < (n : Int) := by omega
  have f6 : decide (c < n) = true := decide_eq_true hc
  have f7 : (0 : Int) ≤ (bY : Int) := by omega
  have f8 : decide (bY < t.length) = true := decide_eq_true hy
  have f9 : (bY : Int) < (t.length : Int) := by omega
  have hg := World.block_lt_of_cell? w _ m2
  have hg2 := World.block_lt_of_cell? w _ q1
  have hgy := World.block_lt_of_cell? w _ y2
  have HT := Aside0.mk hT
  have HR := Aside0.mk hR
  have HLx := Aside0.mk hLx
  have HBI := Aside0.mk (show bs.getD i 0 = bs.getD i 0 from rfl)
  have hrowb : ∀ m, m < t.length → bs.getD m 0 < w.heap.size := fun m hm => by
    have h1 := (hR _ (Sig.getD_mem hm)).1
    exact World.block_lt_of_cell? w _ (hT.rows m hm 0 (by omega)).1
  have HRB := Aside0.mk hrowb
  have HQL := Aside0.mk hlL
  clear q0 m3 q2 y3 hT hR hLx hrowb hlL hIi
  obtain ⟨bi, hbi⟩ : ∃ bi, bi = bs.getD i 0 := ⟨_, rfl⟩
  obtain ⟨bY', hbY⟩ : ∃ bY', bY' = bs.getD bY 0 := ⟨_, rfl⟩
  rw [← hbi] at m2 q1 hg2
  rw [← hbY] at y2
  have Hbi := Aside0.mk hbi
  have HbY := Aside0.mk hbY
  have Hni := Aside0.mk hni
  have Hny := Aside0.mk hny
  have Hlen := Aside0.mk hlen
  clear hbi hbY hni hny hlen
  refine (callsIn_wide (n := 9)).1 ?_
  refine callsIn_of_wp_marks Try.func186 rfl trivial ?_ rfl
  simp only [Try.ntmps186, List.size_toArray, List.length_cons, List.length_nil, Nat.reduceAdd, Nat.reduceSub, Array.replicate_succ, Array.replicate_zero, List.push_toArray, List.append_toArray, List.nil_append, List.cons_append]
  have hzb : (nv == 0) = false := beq_eq_false_iff_ne.2 hz0
  clear hz0
  have hgA : g < w.heap.size + 1 := Nat.lt_succ_of_lt hg
  have hgB : g < w.heap.size + 1 + 1 := Nat.lt_succ_of_lt hgA
  gi_wp2_with (refine ⟨trivial, ?_⟩; gi_at_call 185; refine (callsIn_wide.2 (after_c _ _ _ _ _)).mono ?_; rintro e w' ⟨rfl, rfl⟩)
  obtain ⟨W1, hW1⟩ : ∃ W1, ((w.alloc (.cells #[.slice (some ⟨g, 0, none⟩) t.length cap] 134)).alloc (.cells #[.int .i64 (i : Int)] 3)).alloc (.cells #[.int .i64 nv] 3) = W1 := ⟨_, rfl⟩
  rw [hW1]
  obtain ⟨W0, hW0⟩ : ∃ W0, (W1.alloc (.cells #[.slice (some ⟨bY', 0, none⟩) n cy] 23)).alloc (.cells #[.int .i64 (c : Int)] 3) = W0 := ⟨_, rfl⟩
  rw [hW0]
  have z1 : W1.heap.size = w.heap.size + 1 + 1 + 1 := by rw [← hW1]; simp
  have z0 : W0.heap.size = w.heap.size + 1 + 1 + 1 + 1 + 1 := by rw [← hW0]; simp [z1]
  have hB1 : Below w.heap.size w W1 := by rw [← hW1]; exact ((((Below.refl _ w).alloc (Nat.le_refl _) _).alloc (by simp) _).alloc (by simp; omega) _)
  have b4 : Bx W0 w.heap.size (.slice (some ⟨g, 0, none⟩) t.length cap) := by
    rw [← hW0, ← hW1]; exact ((((Bx.new w _ _).alloc _).alloc _).alloc _).alloc _
  have b5 : Bx W0 (w.heap.size + 1) (.int .i64 (i : Int)) := by
    rw [← hW0, ← hW1]; have := (((Bx.new (w.alloc (.cells #[.slice (some ⟨g, 0, none⟩) t.length cap] 134)) (.int .i64 (i : Int)) 3).alloc (.cells #[.int .i64 nv] 3)).alloc (.cells #[.slice (some ⟨bY', 0, none⟩) n cy] 23)).alloc (.cells #[.int .i64 (c : Int)] 3); simpa using this
  have b8 : Bx W0 (w.heap.size + 1 + 1) (.int .i64 nv) := by
    rw [← hW0, ← hW1]; have := ((Bx.new ((w.alloc (.cells #[.slice (some ⟨g, 0, none⟩) t.length cap] 134)).alloc (.cells #[.int .i64 (i : Int)] 3)) (.int .i64 nv) 3).alloc (.cells #[.slice (some ⟨bY', 0, none⟩) n cy] 23)).alloc (.cells #[.int .i64 (c : Int)] 3); simpa using this
  have b9 : Bx W0 (w.heap.size + 1 + 1 + 1) (.slice (some ⟨bY', 0, none⟩) n cy) := by
    rw [← hW0, ← z1]; exact (Bx.new W1 _ _).alloc _
  have b10 : Bx W0 (w.heap.size + 1 + 1 + 1 + 1) (.int .i64 (c : Int)) := by
    rw [← hW0, ← z1]; have := Bx.new (W1.alloc (.cells #[.slice (some ⟨bY', 0, none⟩) n cy] 23)) (.int .i64 (c : Int)) 3; simpa using this
  have hB0 : Below w.heap.size w W0 := by rw [← hW0]; exact (hB1.alloc (by omega) _).alloc (by simp; omega) _
  have HZ := Aside0.mk z0
  have HB0 := Aside0.mk hB0
  have h0 : CI w base g bs t i (t.getD i []) L w.heap.size (w.heap.size + 1) (w.heap.size + 1 + 1) (w.heap.size + 1 + 1 + 1) (w.heap.size + 1 + 1 + 1 + 1) (.slice (some ⟨g, 0, none⟩) t.length cap) (.int .i64 (i : Int)) (.int .i64 nv) (.slice (some ⟨bY', 0, none⟩) n cy) (.int .i64 (c : Int)) c W0 := by
    refine ⟨?_, b4, b5, b8, b9, b10, Chg.of_below hB0⟩
    rw [HLs.out, set_self_row]
    exact HT.out.below hB0
  have H0 := Aside0.mk h0
  clear h0 hB0 hB1 hW0 hW1 b4 b5 b8 b9 b10 z0 z1 q1 m2 y2
  refine range_all (by omega) rfl (enters_of Try.func206 (by kernel_rfl) rfl)
    (CI w base g bs t i (t.getD i []) L w.heap.size (w.heap.size + 1) (w.heap.size + 1 + 1) (w.heap.size + 1 + 1 + 1) (w.heap.size + 1 + 1 + 1 + 1) (.slice (some ⟨g, 0, none⟩) t.length cap) (.int .i64 (i : Int)) (.int .i64 nv) (.slice (some ⟨bY', 0, none⟩) n cy) (.int .i64 (c : Int))) c (fun k => k = n)
    (fun k vs k' => k < n ∧ vs = #[.int .i64 (k : Int), .int .i64 ((t.getD bY []).getD k 0)] ∧ k' = k + 1) ?_ H0.out ?_ ?_ ?_ ?_
  · exact CI.own _ _ _ _ _ _ _ _ _ _ _ _ _ _ _ _ _ _ (by rw [HZ.out]; omega)
  · rintro k vs k' ⟨_, rfl, _⟩; rfl
  · intro l W2 J _ hJI hJ hY hj0
    refine (after1_in (l := l) (J := J) (bcol := w.heap.size + 1 + 1 + 1 + 1) (brow := w.heap.size + 1 + 1 + 1) (br := bY') (col := c) (L := n) (cap := cy) (x := fun k => (t.getD bY []).getD k 0) hn2 (fun k W hj => ?_) (fun k W hk hj => hY k _ _ W ⟨hk, rfl, rfl⟩ hj) (by omega) W2 hj0).mono (fun e W' h => ⟨h.1, n, rfl, h.2⟩)
    obtain ⟨hT2, _, _, _, c9, c10, _⟩ := hJI k W hj
    refine ⟨c10, c9, fun hk => ?_⟩
    have hr := hT2.rows bY (by simpa using hy)
    rw [getD_set_row hi, if_neg hne] at hr
    rw [HbY.out]
    exact (hr k (by rw [Hny.out]; exact hk)).1
  · rintro l k vs k' W ⟨hk, rfl, rfl⟩ hI
    have HI := Aside0.mk hI
    clear hI
    have hLk := HLx.out k hk
    obtain ⟨xk, hxk⟩ : ∃ xk, xk = (t.getD bY []).getD k 0 := ⟨_, rfl⟩
    obtain ⟨ak, hak⟩ : ∃ ak, ak = (t.getD i []).getD k 0 := ⟨_, rfl⟩
    rw [← hxk, ← hak] at hLk
    rw [← hxk]
    have HLk := Aside0.mk hLk
    have Hak := Aside0.mk hak
    clear hLk hxk hak
    gi_wp2
    refine ⟨KeepsFrom.refl _ _, HI.out, ?_⟩
    clear HI
    rintro W2 ⟨hT2, d4, d5, d8, d9, d10, hB2⟩
    obtain ⟨⟨cr2, m1', m2⟩, _⟩ := hT2.main i (by simpa using hi)
    have hmr : ((t.set i (mixRow (t.getD i []) L k)).getD i []) = mixRow (t.getD i []) L k := by rw [getD_set_row hi, if_pos rfl]
    have hml : (mixRow (t.getD i []) L k).length = n := by rw [mixRow_length Hlen.out]; exact Hni.out
    obtain ⟨q1, q2⟩ := hT2.rows i (by simpa using hi) k (by rw [hmr, hml]; exact hk)
    rw [hmr, hml] at m2
    rw [hmr, mixRow_at Hlen.out (by rw [Hni.out]; exact hk), if_neg (by omega), ← Hak.out] at q1
    rw [← Hbi.out] at m2 q1 q2
    have hbk := World.block_lt_of_cell? W2 _ q1
    have HT2 := Aside0.mk hT2
    have HB2 := Aside0.mk hB2
    have Hml := Aside0.mk hml
    have Hmr := Aside0.mk hmr
    have Hd := Aside0.mk (And.intro d4 (And.intro d5 (And.intro d8 (And.intro d9 d10))))
    have e4 := d4.1
    have e5 := d5.1
    have e8 := d8.1
    have g1 : (0 : Int) ≤ (k : Int) := by omega
    have g2 : (k : Int) < (n : Int) := by omega
    have g3 : decide (k < n) = true := decide_eq_true hk
    clear hT2 hB2 hml hmr d4 d5 d8 d9 d10 m1'
    gi_wp2
    refine startIn_ (n := 19) (S := fun w' => w'.cell? ⟨w.heap.size, 0, none⟩ = some (.slice (some ⟨g, 0, none⟩) t.length cap) ∧ w'.cell? ⟨w.heap.size + 1, 0, none⟩ = some (.int .i64 (i : Int)) ∧ w'.cell? ⟨g, i, none⟩ = some (.slice (some ⟨bi, 0, none⟩) n cr2) ∧ w'.cell? ⟨bi, k, none⟩ = some (.int .i64 ak) ∧ w'.cell? ⟨w.heap.size + 1 + 1, 0, none⟩ = some (.int .i64 nv)) (ds := [18]) #[false, false, false, false, false, false, false, false, false, false, false, false, false, false, false, false, false, false, false] (by kernel_rfl) rfl rfl (by kernel_rfl) (fun h => by obtain ⟨_, _, h⟩ := h; exact h) ⟨e4, e5, m2, q1, e8⟩ (fun hHeld => ?_)
    have hW2d : Below W2.heap.size W2 W2.drew := (Below.refl _ _).drew
    generalize W2.drew = W3 at hHeld hW2d ⊢
    clear e4 e5 e8 m2
    refine take_ (i := 0) (N := some 28) (v := ?_) (a' := ?_) #[true, false, false, false, false, false, false, false, false, false, false, false, false, false, false, false, false, false, false] rfl rfl (by kernel_rfl) (fun _ _ _ h => h) (Or.inl ⟨by rfl, ?_⟩) hHeld ?_ ?_
    rotate_left
    · rintro w' ⟨s0, s1, s2, s3, s4⟩
      go_simp
      with_reducible rfl
    rotate_left
    · simp only [Act.put, List.setIfInBounds_toArray, List.set_cons_zero, List.set_cons_succ, i64_w, i32_w]
      rfl
    refine take_ (i := 1) (N := some 29) (v := ?_) (a' := ?_) #[true, true, false, false, false, false, false, false, false, false, false, false, false, false, false, false, false, false, false] rfl rfl (by kernel_rfl) (fun _ _ _ h => h) (Or.inl ⟨by rfl, ?_⟩) hHeld ?_ ?_
    rotate_left
    · rintro w' ⟨s0, s1, s2, s3, s4⟩
      go_simp
      with_reducible rfl
    rotate_left
    · simp only [Act.put, List.setIfInBounds_toArray, List.set_cons_zero, List.set_cons_succ, i64_w, i32_w]
      rfl
    refine pure_ (i := 2) (N := some 30) (v := ?_) (a' := ?_) #[true, true, true, false, false, false, false, false, false, false, false, false, false, false, false, false, false, false, false] rfl rfl (by kernel_rfl) (fun _ _ _ h => h) (Or.inl ⟨by rfl, ?_⟩) ?_ ?_
    rotate_left
    · intro w'
      go_simp
      with_reducible rfl
    rotate_left
    · simp only [Act.put, List.setIfInBounds_toArray, List.set_cons_zero, List.set_cons_succ, i64_w, i32_w]
      rfl
    refine take_ (i := 3) (N := some 31) (v := ?_) (a' := ?_) #[true, true, true, true, false, false, false, false, false, false, false, false, false, false, false, false, false, false, false] rfl rfl (by kernel_rfl) (fun _ _ _ h => h) (Or.inl ⟨by rfl, ?_⟩) hHeld ?_ ?_
    rotate_left
    · rintro w' ⟨s0, s1, s2, s3, s4⟩
      go_simp
      with_reducible rfl
    rotate_left
    · simp only [Act.put, List.setIfInBounds_toArray, List.set_cons_zero, List.set_cons_succ, i64_w, i32_w]
      rfl
    refine pure_ (i := 4) (N := some 32) (v := ?_) (a' := ?_) #[true, true, true, true, true, false, false, false, false, false, false, false, false, false, false, false, false, false, false] rfl rfl (by kernel_rfl) (fun _ _ _ h => h) (Or.inl ⟨by rfl, ?_⟩) ?_ ?_
    rotate_left
    · intro w'
      go_simp
      with_reducible rfl
    rotate_left
    · simp only [Act.put, List.setIfInBounds_toArray, List.set_cons_zero, List.set_cons_succ, i64_w, i32_w]
      rfl
    refine take_ (i := 5) (N := some 33) (v := ?_) (a' := ?_) #[true, true, true, true, true, true, false, false, false, false, false, false, false, false, false, false, false, false, false] rfl rfl (by kernel_rfl) (fun _ _ _ h => h) (Or.inl ⟨by rfl, ?_⟩) hHeld ?_ ?_
    rotate_left
    · rintro w' ⟨s0, s1, s2, s3, s4⟩
      go_simp
      with_reducible rfl
    rotate_left
    · simp only [Act.put, List.setIfInBounds_toArray, List.set_cons_zero, List.set_cons_succ, i64_w, i32_w]
      rfl
    refine take_ (i := 6) (N := some 34) (v := ?_) (a' := ?_) #[true, true, true, true, true, true, true, false, false, false, false, false, false, false, false, false, false, false, false] rfl rfl (by kernel_rfl) (fun _ _ _ h => h) (Or.inl ⟨by rfl, ?_⟩) hHeld ?_ ?_
    rotate_left
    · rintro w' ⟨s0, s1, s2, s3, s4⟩
      go_simp
      with_reducible rfl
    rotate_left
    · simp only [Act.put, List.setIfInBounds_toArray, List.set_cons_zero, List.set_cons_succ, i64_w, i32_w]
      rfl
    refine pure_ (i := 7) (N := some 35) (v := ?_) (a' := ?_) #[true, true, true, true, true, true, true, true, false, false, false, false, false, false, false, false, false, false, false] rfl rfl (by kernel_rfl) (fun _ _ _ h => h) (Or.inl ⟨by rfl, ?_⟩) ?_ ?_
    rotate_left
    · intro w'
      go_simp
      with_reducible rfl
    rotate_left
    · simp only [Act.put, List.setIfInBounds_toArray, List.set_cons_zero, List.set_cons_succ, i64_w, i32_w]
      rfl
    refine take_ (i := 8) (N := some 36) (v := ?_) (a' := ?_) #[true, true, true, true, true, true, true, true, true, false, false, false, false, false, false, false, false, false, false] rfl rfl (by kernel_rfl) (fun _ _ _ h => h) (Or.inl ⟨by rfl, ?_⟩) hHeld ?_ ?_
    rotate_left
    · rintro w' ⟨s0, s1, s2, s3, s4⟩
      go_simp
      with_reducible rfl
    rotate_left
    · simp only [Act.put, List.setIfInBounds_toArray, List.set_cons_zero, List.set_cons_succ, i64_w, i32_w]
      rfl
    refine pure_ (i := 9) (N := some 37) (v := ?_) (a' := ?_) #[true, true, true, true, true, true, true, true, true, true, false, false, false, false, false, false, false, false, false] rfl rfl (by kernel_rfl) (fun _ _ _ h => h) (Or.inl ⟨by rfl, ?_⟩) ?_ ?_
    rotate_left
    · intro w'
      go_simp
      with_reducible rfl
    rotate_left
    · simp only [Act.put, List.setIfInBounds_toArray, List.set_cons_zero, List.set_cons_succ, i64_w, i32_w]
      rfl
    refine pure_ (i := 10) (N := some 38) (v := ?_) (a' := ?_) #[true, true, true, true, true, true, true, true, true, true, true, false, false, false, false, false, false, false, false] rfl rfl (by kernel_rfl) (fun _ _ _ h => h) (Or.inl ⟨by rfl, ?_⟩) ?_ ?_
    rotate_left
    · intro w'
      go_simp
      with_reducible rfl
    rotate_left
    · simp only [Act.put, List.setIfInBounds_toArray, List.set_cons_zero, List.set_cons_succ, i64_w, i32_w]
      rfl
    refine take_ (i := 11) (N := some 39) (v := ?_) (a' := ?_) #[true, true, true, true, true, true, true, true, true, true, true, true, false, false, false, false, false, false, false] rfl rfl (by kernel_rfl) (fun _ _ _ h => h) (Or.inl ⟨by rfl, ?_⟩) hHeld ?_ ?_
    rotate_left
    · rintro w' ⟨s0, s1, s2, s3, s4⟩
      go_simp
      with_reducible rfl
    rotate_left
    · simp only [Act.put, List.setIfInBounds_toArray, List.set_cons_zero, List.set_cons_succ, i64_w, i32_w]
      rfl
    refine take_ (i := 12) (N := some 40) (v := ?_) (a' := ?_) #[true, true, true, true, true, true, true, true, true, true, true, true, true, false, false, false, false, false, false] rfl rfl (by kernel_rfl) (fun _ _ _ h => h) (Or.inl ⟨by rfl, ?_⟩) hHeld ?_ ?_
    rotate_left
    · rintro w' ⟨s0, s1, s2, s3, s4⟩
      go_simp
      with_reducible rfl
    rotate_left
    · simp only [Act.put, List.setIfInBounds_toArray, List.set_cons_zero, List.set_cons_succ, i64_w, i32_w]
      rfl
    refine pure_ (i := 13) (N := some 41) (v := ?_) (a' := ?_) #[true, true, true, true, true, true, true, true, true, true, true, true, true, true, false, false, false, false, false] rfl rfl (by kernel_rfl) (fun _ _ _ h => h) (Or.inl ⟨by rfl, ?_⟩) ?_ ?_
    rotate_left
    · intro w'
      go_simp
      with_reducible rfl
    rotate_left
    · simp only [Act.put, List.setIfInBounds_toArray, List.set_cons_zero, List.set_cons_succ, i64_w, i32_w]
      rfl
    refine one_ (i := 14) (N := some 42) #[true, true, true, true, true, true, true, true, true, true, true, true, true, true, true, false, false, false, false] rfl rfl (by kernel_rfl) (by decide) (fun K hK => ?_)
    refine goes_ Try.func65 (by kernel_rfl) rfl #[.int .i64 nv, .int .i64 xk] (by rfl) rfl rfl (by (try simp only [List.map_toArray, List.map_cons, List.map_nil]); first | done | rfl) ?_
    refine (mul_c _ _ _).mono ?_
    rintro e w' ⟨rfl, ⟨nd, rfl⟩⟩
    refine ⟨_, rfl, hK.out _ _ ⟨pw_cell_below (pw_below_drewN (Below.refl _ _) _) hHeld.1, pw_cell_below (pw_below_drewN (Below.refl _ _) _) hHeld.2.1, pw_cell_below (pw_below_drewN (Below.refl _ _) _) hHeld.2.2.1, pw_cell_below (pw_below_drewN (Below.refl _ _) _) hHeld.2.2.2.1, pw_cell_below (pw_below_drewN (Below.refl _ _) _) hHeld.2.2.2.2⟩ (fun hHeld => ?_)⟩
    clear hK K
    refine pure_ (i := 15) (N := some 43) (v := ?_) (a' := ?_) #[true, true, true, true, true, true, true, true, true, true, true, true, true, true, true, true, false, false, false] rfl rfl (by kernel_rfl) (fun _ _ _ h => h) (Or.inl ⟨by rfl, ?_⟩) ?_ ?_
    rotate_left
    · intro w'
      go_simp
      with_reducible rfl
    rotate_left
    · simp only [Act.put, List.setIfInBounds_toArray, List.set_cons_zero, List.set_cons_succ, i64_w, i32_w]
      rfl
    refine one_ (i := 16) (N := some 44) #[true, true, true, true, true, true, true, true, true, true, true, true, true, true, true, true, true, false, false] rfl rfl (by kernel_rfl) (by decide) (fun K hK => ?_)
    refine goes_ Try.func36 (by kernel_rfl) rfl #[.int .i64 ak, .int .i64 (wrap64 (-(nv * xk % 1073741789)))] (by rfl) rfl rfl (by (try simp only [List.map_toArray, List.map_cons, List.map_nil]); first | done | rfl) ?_
    refine (field_Add_m.calls _ _ _ _ rfl).mono ?_
    rintro e w' ⟨rfl, hbA⟩
    refine ⟨_, rfl, hK.out _ _ ⟨pw_cell_below hbA hHeld.1, pw_cell_below hbA hHeld.2.1, pw_cell_below hbA hHeld.2.2.1, pw_cell_below hbA hHeld.2.2.2.1, pw_cell_below hbA hHeld.2.2.2.2⟩ (fun hHeld => ?_)⟩
    clear hK K
    refine pure_ (i := 17) (N := some 45) (v := ?_) (a' := ?_) #[true, true, true, true, true, true, true, true, true, true, true, true, true, true, true, true, true, true, false] rfl rfl (by kernel_rfl) (fun _ _ _ h => h) (Or.inl ⟨by rfl, ?_⟩) ?_ ?_
    rotate_left
    · intro w'
      go_simp
      with_reducible rfl
    rotate_left
    · simp only [Act.put, List.setIfInBounds_toArray, List.set_cons_zero, List.set_cons_succ, i64_w, i32_w]
      rfl
    have hW5 := below_then (below_then hW2d hW2d.size (pw_below_drewN (Below.refl _ _) nd)) (by have := hW2d.size; simpa using this) hbA
    have hfz : w'.frozen? ⟨bi, k, none⟩ = false := (hW5.frozen (p := ⟨bi, k, none⟩) hbk).trans q2
    refine last_ (i := 18) (N := none) #[true, true, true, true, true, true, true, true, true, true, true, true, true, true, true, true, true, true, true] rfl rfl (by kernel_rfl) (by decide) (fun K hK => ?_)
    refine skip_ (w1 := ?_) (by rfl) rfl ?_ ?_
    rotate_left
    · go_simp
      rfl
    refine hK.out _ _ ?_
    clear hK K
    refine done_ (by kernel_rfl) ?_
    refine ⟨?_, ?_⟩
    · exact ((keeps_below hW5).trans (KeepsOthers.setCell _ _ _)).from _
    · have hv : (ak + wrap64 (-(nv * xk % 1073741789))) % 1073741789 = L.getD k 0 := (neg_wrap ak (nv * xk)).trans HLk.out.symm
      rw [hv]
      obtain ⟨d4, d5, d8, d9, d10⟩ := Hd.out
      have hs := HZ.out
      have hT5 := (HT2.out.below hW5).put (i := i) (j := k) (by simpa using hi) (by rw [Hmr.out, Hml.out]; exact hk) (L.getD k 0)
      rw [Hmr.out, mixRow_set Hlen.out (by rw [Hni.out]; exact hk), List.set_set, ← Hbi.out] at hT5
      clear hHeld
      have r1 := (d4.below hW5).far (c := bi) (by have := hg2; omega) k (.int .i64 (L.getD k 0))
      have r2 := (d5.below hW5).far (c := bi) (by have := hg2; omega) k (.int .i64 (L.getD k 0))
      have r3 := (d8.below hW5).far (c := bi) (by have := hg2; omega) k (.int .i64 (L.getD k 0))
      have r4 := (d9.below hW5).far (c := bi) (by have := hg2; omega) k (.int .i64 (L.getD k 0))
      have r5 := (d10.below hW5).far (c := bi) (by have := hg2; omega) k (.int .i64 (L.getD k 0))
      have eti : t[i] = t.getD i [] := by rw [List.getD_eq_getElem?_getD, List.getElem?_eq_getElem hi]; rfl
      refine ⟨?_, r1, r2, r3, r4, r5, (HB2.out.then_below hW5).then_set (.inl Hbi.out) _⟩
      rw [eti]
      exact hT5
  · rintro D k W hD rfl ⟨hT2, d4, d5, d8, d9, d10, hB2⟩ hK
    gi_wp2
    refine ⟨by simp, .inl ⟨_, _, rfl, run_takeDeferred hK, ?_⟩⟩
    refine ⟨.tuple #[], by simp [results, Try.results186, go_sem], rfl, ?_, ?_⟩
    · have hTk := hT2.kept (grownBy_putObj' W D (.deferred none)) (fun r e => by cases e; exact ⟨_, hK, rfl⟩)
      have e : mixRow (t.getD i []) L k = L := by rw [← Hni.out]; exact mixRow_all Hlen.out
      rw [e] at hTk
      exact hTk
    · exact hB2.then_grown (grownBy_putObj' W D (.deferred none)) (fun k e => by cases e; right; have := HZ.out; omega)
theorem clear_c (w : World) (base g cap : Nat) (bs : List Nat) (t : List (List Int)) (i bY c n : Nat) (hT : Tab w base g bs t) (hR : Sig.Rect t n) (hi : i < t.length) (hy : bY < t.length) (hne : i ≠ bY) (hc : c < n) (hn2 : n ≤ 9223372036854775807)
    (hz : ∀ d, d < c → Sig.ent t bY d = 0) (hb : base ≤ w.heap.size) (hcap : t.length ≤ cap) :
    Calls Try.prog 186 #[.slice (some ⟨g, 0, none⟩) t.length cap, .int .i64 (i : Int), .int .i64 (bY : Int), .int .i64 (c : Int)] w fun e w' => e = .returned (.tuple #[]) ∧
      Tab w' base g bs (t.set i (Sig.less (t.getD i []) (t.getD bY []) (Sig.ent t i c))) ∧ Chg (fun k => k = bs.getD i 0) w w' := by
  by_cases h0 : Sig.ent t i c = 0
  · refine (clear_zero w base g cap bs t i bY c n hT hi (hR _ (Sig.getD_mem hi)).1 hc h0 hb hcap).mono ?_
    rintro e w' ⟨he, hB⟩
    refine ⟨he, ?_, Chg.of_below hB⟩
    rw [h0, less_zero (hR _ (Sig.getD_mem hi)).2 ((hR _ (Sig.getD_mem hi)).1.trans (hR _ (Sig.getD_mem hy)).1.symm), set_self_row]
    exact hT.below hB
  · exact clear_some w base g cap bs t i bY c n hT hR hi hy hne hc hn2 hz hb h0
end Go.Proofs.Ytdbamhckgaoibaa.P
namespace Go.Proofs.Ytdbamhckgaoibaa.P
open Go.RowKit Go.Proofs.YtdbamhckgaoibaaW.PrintWords Go.Proofs.YtdbamhckgaoibaaW.PrintLast Go.Proofs.YtdbamhckgaoibaaW.PrintMore
set_option linter.unusedVariables false
set_option linter.unusedSimpArgs false
def markOf (D : Nat) : Deferred := { target := .collected D, args := #[] }
def Marks (base : Nat) (ds : List Deferred) (W : World) : Prop := ∃ Ds : List Nat, ds = Ds.map markOf ∧ Ds.Nodup ∧ ∀ D ∈ Ds, base ≤ D ∧ W.heap[D]? = some (.deferred (some []))
theorem Marks.nil (base : Nat) (W : World) : Marks base [] W := ⟨[], rfl, List.nodup_nil, fun _ h => by cases h⟩
theorem Marks.keep {base : Nat} {ds : List Deferred} {W W' : World} (h : Marks base ds W) (hk : ∀ D, base ≤ D → W.heap[D]? = some (.deferred (some [])) → W'.heap[D]? = some (.deferred (some []))) : Marks base ds W' := by
  obtain ⟨Ds, h1, h2, h3⟩ := h
  exact ⟨Ds, h1, h2, fun D hD => ⟨(h3 D hD).1, hk D (h3 D hD).1 (h3 D hD).2⟩⟩
theorem Marks.below {base : Nat} {ds : List Deferred} {W W' : World} (h : Marks base ds W) (hb : Below W.heap.size W W') : Marks base ds W' :=
  h.keep fun D _ hD => (hb.block D (Array.getElem?_eq_some_iff.1 hD).1).trans hD
theorem Marks.chg {base : Nat} {ds : List Deferred} {S : Nat → Prop} {W W' : World} (h : Marks base ds W) (hc : Chg S W W') (hs : ∀ k, base ≤ k → ¬ S k) : Marks base ds W' :=
  h.keep fun D hb hD => (hc.block D (Array.getElem?_eq_some_iff.1 hD).1 (hs D hb)).trans hD
theorem Marks.cons {base : Nat} {ds : List Deferred} {W W' : World} {D : Nat} (h : Marks base ds W) (hb : base ≤ D) (hD : W'.heap[D]? = some (.deferred (some []))) (hn : W.heap.size ≤ D) (hk : ∀ D, base ≤ D → W.heap[D]? = some (.deferred (some [])) → W'.heap[D]? = some (.deferred (some []))) :
    Marks base (markOf D :: ds) W' := by
  obtain ⟨Ds, h1, h2, h3⟩ := h
  refine ⟨D :: Ds, by rw [h1]; rfl, List.nodup_cons.2 ⟨fun hm => ?_, h2⟩, fun E hE => ?_⟩
  · have := (Array.getElem?_eq_some_iff.1 (h3 D hm).2).1; omega
  · rcases List.mem_cons.1 hE with rfl | hE
    · exact ⟨hb, hD⟩
    · exact ⟨(h3 E hE).1, hk E (h3 E hE).1 (h3 E hE).2⟩
theorem leaves_marks {n base : Nat} {P : Program} {fn : Func} {tmps : Array Value} {R : Ending → World → Prop} (I : World → Prop) (hI : ∀ W D, base ≤ D → W.heap[D]? = some (.deferred (some [])) → I W → I (W.putObj D (.deferred none)))
    (hR : ∀ W, I W → ∃ v, (results fn tmps).run P W = .ok v W ∧ R (.returned v) W) : ∀ (ds : List Deferred) (W : World), Marks base ds W → I W → LeavesInM Fence.wide n P fn tmps R ds .returning W := by
  intro ds W hM
  obtain ⟨Ds, rfl, h2, h3⟩ := hM
  revert W
  induction Ds with
  | nil =>
    intro W _ hi
    exact hR W hi
  | cons D Ds ih =>
    intro W h3 hi
    rw [List.nodup_cons] at h2
    obtain ⟨hb, hD⟩ := h3 D List.mem_cons_self
    refine ⟨by simp, .inl ⟨D, _, rfl, run_takeDeferred hD, ?_⟩⟩
    refine ih h2.2 _ (fun E hE => ⟨(h3 E (List.mem_cons_of_mem _ hE)).1, ?_⟩) (hI W D hb hD hi)
    exact (World.putObj_heap_other (fun e => h2.1 (by first | (rw [e]; exact hE) | (rw [← e]; exact hE)))).trans (h3 E (List.mem_cons_of_mem _ hE)).2
theorem own_chg {S : Nat → Prop} {w w1 : World} {base n : Nat} {e : TypeId} {size : Nat} {v : Value} {xs : List Value} (h : w.ownsRow base e size v n xs) (hc : Chg S w w1) (hs : ∀ k, base ≤ k → ¬ S k) : w1.ownsRow base e size v n xs :=
  own_move h fun k hk => hc.block k (own_lt h k hk) (hs k (own_base h k hk))
theorem own_nocell {w w1 : World} {base n : Nat} {e : TypeId} {size : Nat} {v : Value} {xs : List Value} (h : w.ownsRow base e size v n xs) {row : Option Nat} (hg : w.grownBy w1 row) (hr : ∀ r, row = some r → ∃ o : Obj, w.heap[r]? = some o ∧ o.isCells = false) : w1.ownsRow base e size v n xs :=
  own_move h fun k hk => hg.block k (own_lt h k hk) fun e1 => by
    obtain ⟨o, ho, hf⟩ := hr k e1.symm
    obtain ⟨cells, hcl⟩ := own_typed h k hk
    rw [hcl] at ho
    cases ho
    simp [Obj.isCells] at hf
theorem R_of_owns {w : World} {base : Nat} {ok : Nat → Prop} {v : Value} {xs : List Int} (h : w.ownsRow base 3 1 v xs.length (nums .i64 xs)) (hok : ∀ k, v.ownBlock = some k → ok k) : Kd.R (Kd.int .i64) 3 w base ok v xs := by
  refine ⟨hok, nums .i64 xs, h, by simp [nums, Kd.int, Kd.scalar], fun j p hj => ?_⟩
  have : (nums .i64 xs)[j]? = some (.int .i64 p) := by simp [nums, hj]
  show ((nums .i64 xs).drop (j * 1)).take 1 = [.int .i64 p]
  rw [Nat.mul_one]
  obtain ⟨hlt, he⟩ := List.getElem?_eq_some_iff.1 this
  rw [List.drop_eq_getElem_cons hlt, List.take_succ_cons, List.take_zero, he]
def elim (t : List (List Int)) (r c : Nat) : Nat → List (List Int)
  | 0 => t
  | j + 1 => if j = r then elim t r c j else (elim t r c j).set j (Sig.less ((elim t r c j).getD j []) ((elim t r c j).getD r []) (Sig.ent (elim t r c j) j c))
theorem elim_length (t : List (List Int)) (r c : Nat) : ∀ j, (elim t r c j).length = t.length
  | 0 => rfl
  | j + 1 => by
    rw [elim]; split
    · exact elim_length t r c j
    · rw [List.length_set]; exact elim_length t r c j
theorem elim_getD (t : List (List Int)) (r c : Nat) : ∀ j, j ≤ t.length → ∀ i, (elim t r c j).getD i [] = if i < j ∧ i ≠ r then Sig.less (t.getD i []) (t.getD r []) (Sig.ent t i c) else t.getD i []
  | 0, _, i => by rw [if_neg (by omega)]; rfl
  | j + 1, hj, i => by
    have ih := elim_getD t r c j (by omega)
    rw [elim]
    by_cases e : j = r
    · rw [if_pos e, ih i]
      by_cases h : i < j ∧ i ≠ r
      · rw [if_pos h, if_pos ⟨by omega, h.2⟩]
      · rw [if_neg h, if_neg (fun h' => h ⟨by omega, h'.2⟩)]
    · have e1 : (elim t r c j).getD j [] = t.getD j [] := by rw [ih j, if_neg (by omega)]
      have e2 : (elim t r c j).getD r [] = t.getD r [] := by rw [ih r, if_neg (fun h => h.2 rfl)]
      rw [if_neg e, getD_set_row (by rw [elim_length]; omega)]
      unfold Sig.ent
      rw [e1, e2, ih i]
      by_cases h : j = i
      · subst h
        rw [if_pos rfl, if_pos ⟨by omega, e⟩]
      · rw [if_neg h]
        by_cases h2 : i < j ∧ i ≠ r
        · rw [if_pos h2, if_pos ⟨by omega, h2.2⟩]; rfl
        · rw [if_neg h2, if_neg (fun h' => h2 ⟨by omega, h'.2⟩)]
theorem ext_rows {s t : List (List Int)} (hl : s.length = t.length) (h : ∀ i, i < t.length → s.getD i [] = t.getD i []) : s = t := by
  apply List.ext_getElem hl
  intro i h1 h2
  have := h i h2
  rw [List.getD_eq_getElem?_getD, List.getD_eq_getElem?_getD, List.getElem?_eq_getElem h1, List.getElem?_eq_getElem h2] at this
  exact this
def scaled (t : List (List Int)) (r k c : Nat) : List (List Int) := ((t.set r (t.getD k [])).set k (t.getD r [])).set r (Sig.times (t.getD k []) (Sig.finv (Sig.ent t k c)))
theorem scaled_getD {t : List (List Int)} {r k c : Nat} (hr : r < t.length) (hk : k < t.length) (i : Nat) : (scaled t r k c).getD i [] = if r = i then Sig.times (t.getD k []) (Sig.finv (Sig.ent t k c)) else Sig.swapped t r k i := by
  unfold scaled Sig.swapped
  rw [getD_set_row (by simpa using hr), getD_set_row (by simpa using hk), getD_set_row hr]
  by_cases e : r = i
  · rw [if_pos e, if_pos e]
  · rw [if_neg e, if_neg e, if_neg e]
theorem elim_pivot {t : List (List Int)} {r k c : Nat} (hr : r < t.length) (hk : k < t.length) : elim (scaled t r k c) r c t.length = Sig.pivot t r k c := by
  have hsl : (scaled t r k c).length = t.length := by simp [scaled]
  refine ext_rows (by rw [elim_length, Sig.pivot_length, hsl]) fun i hi => ?_
  rw [Sig.pivot_length] at hi
  rw [elim_getD _ _ _ _ (by omega), Sig.pivot_getD hk hi]
  unfold Sig.ent
  rw [scaled_getD hr hk, scaled_getD hr hk, if_pos rfl]
  by_cases e : i = r
  · subst e
    rw [if_neg (fun h => h.2 rfl), if_pos rfl, if_pos rfl]; rfl
  · rw [if_pos ⟨hi, e⟩, if_neg (fun h => e h.symm), if_neg e]; rfl
theorem fork_ {P : Program} {ops : Array Oper} {Q : Exit → Act → World → Prop} {md : Region.Mode} {S : World → Prop} {ds : List Nat} {i j : Nat} {N : Tmp} {oi oj : Oper} {v : Value} {fuel : Nat} {l : Array Bool} {a : Act} {w w1 : World} (li lj l' : Array Bool)
    (hi : ops[i]? = some oi) (hj : ops[j]? = some oj) (hN : oi.dst = some N) (hNj : oj.dst = none) (hd : j ∈ ds)
    (hc : (Region.ready md ops l == [i, j] && Region.ready md ops li == [j] && Region.ready md ops lj == [i] && l.setIfInBounds i true == li && l.setIfInBounds j true == lj && li.setIfInBounds j true == l' && lj.setIfInBounds i true == l') = true)
    (hy : YieldsIf P ops (fun w' => w' = w ∨ w' = w1) oi v a)
    (hw1 : Region.wanted oj (yielded ops a.tmps) = true) (hs1 : (execOp a.eval oj).run P w = .ok .skip w1) {a' : Act} (ha : a.put (some N) v = a')
    (hw2 : Region.wanted oj (yielded ops a'.tmps) = true) (hs2 : (execOp a'.eval oj).run P w = .ok .skip w1)
    (h : wpAnyLast P md ops Q S ds fuel l' a' w1) : wpAnyLast P md ops Q S ds (fuel + 2) l a w := by
  simp only [Bool.and_eq_true, beq_iff_eq] at hc
  obtain ⟨⟨⟨⟨⟨⟨h1, h2⟩, h3⟩, h4⟩, h5⟩, h6⟩, h7⟩ := hc
  refine wpAnyLast_ready h1 (by simp) ?_
  intro m hm
  rcases List.mem_cons.1 hm with rfl | hm
  · refine hy.wpOp hi (.inl rfl) ⟨fun _ h => h, ?_⟩
    rw [hN, ha, h4]
    refine wpAnyLast_ready h2 (by simp) ?_
    intro m' hm'
    obtain rfl : m' = j := by simpa using hm'
    refine wpOp_step hj (fun K' hK => ?_)
    rw [hNj]
    refine skip_ hw2 hNj hs2 (hK _ _ ⟨fun hn => absurd hd hn, ?_⟩)
    rw [h6]
    exact h
  · obtain rfl : m = j := by simpa using hm
    refine wpOp_step hj (fun K' hK => ?_)
    rw [hNj]
    refine skip_ hw1 hNj hs1 (hK _ _ ⟨fun hn => absurd hd hn, ?_⟩)
    rw [h5]
    refine wpAnyLast_ready h3 (by simp) ?_
    intro m' hm'
    obtain rfl : m' = i := by simpa using hm'
    refine hy.wpOp hi (.inr rfl) ⟨fun _ h => h, ?_⟩
    rw [hN, ha, h7]
    exact h
theorem own_len {w : World} {base n size : Nat} {e : TypeId} {v : Value} {xs : List Value} (h : w.ownsRow base e size v n xs) : ∃ A c, v = .slice A n c := by
  rcases h.2 with ⟨rfl, rfl⟩ | ⟨g, cap, cur, rfl, _⟩
  · exact ⟨none, 0, rfl⟩
  · exact ⟨_, _, rfl⟩
theorem own_far {w : World} {base n size : Nat} {e : TypeId} {v : Value} {xs : List Value} (h : w.ownsRow base e size v n xs) {b j : Nat} (hb : b < base) (u : Value) : (w.setCell ⟨b, j, none⟩ u).ownsRow base e size v n xs :=
  ownsRow_setCell_below h hb u
theorem times_start {a : List Int} {n : Int} {k : Nat} (ha : ∀ x ∈ a, Sig.InF x) (hz : ∀ d, d < k → a.getD d 0 = 0) : mixRow a (Sig.times a n) k = a := by
  refine mixRow_start (Sig.times_length a n).symm fun d hd hd2 => ?_
  rw [Sig.times_getD, hz d hd, Int.zero_mul]; rfl
structure RD (w : World) (base g : Nat) (S : Nat → Prop) (T : Nat) (tb : Value) (bs : List Nat) (t : List (List Int)) (ds : List Deferred) (W : World) : Prop where
  tab : Tab W base g bs t
  box : Bx W w.heap.size tb
  chg : Chg S w W
  marks : Marks w.heap.size ds W
  len : bs.length = T
  tlen : t.length = T
  low : ∀ i, i < T → S (bs.getD i 0)
  sg : S g
  slt : ∀ k, S k → k < w.heap.size
theorem RD.below {w : World} {base g : Nat} {S : Nat → Prop} {T : Nat} {tb : Value} {bs : List Nat} {t : List (List Int)} {ds : List Deferred} {W W' : World} (h : RD w base g S T tb bs t ds W) (hb : Below W.heap.size W W') : RD w base g S T tb bs t ds W' :=
  ⟨h.tab.below hb, h.box.below hb, h.chg.then_below hb, h.marks.below hb, h.len, h.tlen, h.low, h.sg, h.slt⟩
theorem RD.out {w : World} {base g : Nat} {S : Nat → Prop} {T : Nat} {tb : Value} {bs : List Nat} {t t' : List (List Int)} {ds : List Deferred} {W W' : World} {i : Nat} (h : RD w base g S T tb bs t ds W) (hi : i < T) (hT : Tab W' base g bs t') (hl : t'.length = T) (hc : Chg (fun k => k = bs.getD i 0) W W') : RD w base g S T tb bs t' ds W' :=
  ⟨hT, h.box.chg hc (fun e => by have := h.slt _ (h.low i hi); omega), h.chg.trans hc (fun k _ e => e ▸ h.low i hi), h.marks.chg hc (fun k hk e => by have := h.slt _ (h.low i hi); omega), h.len, hl, h.low, h.sg, h.slt⟩
theorem RD.kept {w : World} {base g : Nat} {S : Nat → Prop} {T : Nat} {tb : Value} {bs : List Nat} {t : List (List Int)} {ds : List Deferred} {W W' : World} (h : RD w base g S T tb bs t ds W) {row : Option Nat} (hg : W.grownBy W' row) (hr : ∀ k, row = some k → w.heap.size ≤ k ∧ (∃ o : Obj, W.heap[k]? = some o ∧ o.isCells = false)) (hM : Marks w.heap.size ds W') : RD w base g S T tb bs t ds W' :=
  ⟨h.tab.kept hg (fun r e => (hr r e).2), h.box.kept hg (fun r e => (hr r e).2), h.chg.then_grown hg (fun k e => .inr (hr k e).1), hM, h.len, h.tlen, h.low, h.sg, h.slt⟩
theorem RD.mark {w : World} {base g : Nat} {S : Nat → Prop} {T : Nat} {tb : Value} {bs : List Nat} {t : List (List Int)} {ds ds' : List Deferred} {W : World} (h : RD w base g S T tb bs t ds W) (hM : Marks w.heap.size ds' W) : RD w base g S T tb bs t ds' W :=
  ⟨h.tab, h.box, h.chg, hM, h.len, h.tlen, h.low, h.sg, h.slt⟩
theorem RD.swap {w : World} {base g : Nat} {S : Nat → Prop} {T : Nat} {tb : Value} {bs : List Nat} {t : List (List Int)} {ds : List Deferred} {W : World} (h : RD w base g S T tb bs t ds W) {r k n cr ck : Nat} (hr : r < T) (hk : k < T) (nr : (t.getD r []).length = n) (nk : (t.getD k []).length = n)
    (h1 : W.cell? ⟨g, r, none⟩ = some (.slice (some ⟨bs.getD r 0, 0, none⟩) n cr)) (h2 : W.cell? ⟨g, k, none⟩ = some (.slice (some ⟨bs.getD k 0, 0, none⟩) n ck)) (l1 : n ≤ cr) (l2 : n ≤ ck) :
    RD w base g S T tb ((bs.set r (bs.getD k 0)).set k (bs.getD r 0)) ((t.set r (t.getD k [])).set k (t.getD r [])) ds ((W.setCell ⟨g, r, none⟩ (.slice (some ⟨bs.getD k 0, 0, none⟩) n ck)).setCell ⟨g, k, none⟩ (.slice (some ⟨bs.getD r 0, 0, none⟩) n cr)) := by
  have hgl := h.slt g h.sg
  have hT := h.tab.swap (h.len.trans h.tlen.symm) (by rw [h.tlen]; exact hr) (by rw [h.tlen]; exact hk) (cr := cr) (ck := ck) (by rw [nr]; exact h1) (by rw [nk]; exact h2) (by rw [nr]; exact l1) (by rw [nk]; exact l2)
  rw [nr, nk] at hT
  refine ⟨hT, (h.box.far (c := g) (by omega) _ _).far (c := g) (by omega) _ _, (h.chg.then_set (.inl h.sg) _).then_set (.inl h.sg) _, h.marks.chg (S := fun k => k = g) (((Chg.refl (fun k => k = g) W).then_set (.inl rfl) _).then_set (.inl rfl) _) (fun k hk (e : k = g) => by omega), by simpa using h.len, by simpa using h.tlen, fun i hi => ?_, h.sg, h.slt⟩
  rw [getD_set_nat, getD_set_nat]
  split
  · exact h.low r hr
  · split
    · exact h.low k hk
    · exact h.low i hi
theorem own_below {w w1 : World} {base n : Nat} {e : TypeId} {size : Nat} {v : Value} {xs : List Value} (h : w.ownsRow base e size v n xs) (hb : Below w.heap.size w w1) : w1.ownsRow base e size v n xs :=
  own_move h fun k hk => hb.block k (own_lt h k hk)
theorem Tab.chg {S : Nat → Prop} {W W' : World} {base g : Nat} {bs : List Nat} {t : List (List Int)} (h : Tab W base g bs t) (hc : Chg S W W') (hg : ¬ S g) (hb : ∀ i, i < t.length → ¬ S (bs.getD i 0)) : Tab W' base g bs t := by
  have hm : ∀ b, ¬ S b → ∀ j v, W.cell? ⟨b, j, none⟩ = some v → W'.cell? ⟨b, j, none⟩ = some v ∧ W'.frozen? ⟨b, j, none⟩ = W.frozen? ⟨b, j, none⟩ := fun b hb j v hv =>
    ⟨(hc.cell (a := ⟨b, j, none⟩) (World.block_lt_of_cell? W _ hv) hb).1.trans hv, (hc.cell (a := ⟨b, j, none⟩) (World.block_lt_of_cell? W _ hv) hb).2⟩
  refine ⟨h.geg, h.ge, h.ne, h.inj, fun i hi => ?_, fun i hi => (h.rows i hi).move (hm _ (hb i hi))⟩
  obtain ⟨⟨c, h1, h2⟩, h3⟩ := h.main i hi
  obtain ⟨h4, h5⟩ := hm g hg i _ h2
  exact ⟨⟨c, h1, h4⟩, h5.trans h3⟩
theorem RD.appended {w : World} {base g : Nat} {S : Nat → Prop} {T : Nat} {tb : Value} {bs : List Nat} {t : List (List Int)} {ds : List Deferred} {W W' : World} (h : RD w base g S T tb bs t ds W) {n size : Nat} {e : TypeId} {v : Value} {xs : List Value} (hO : W.ownsRow (w.heap.size + 1) e size v n xs) (hg : W.grownBy W' v.ownBlock) : RD w base g S T tb bs t ds W' := by
  have hc : Chg (fun k => v.ownBlock = some k) W W' := (Chg.refl _ W).then_grown hg (fun k e => .inl e)
  have hlt : ∀ k, v.ownBlock = some k → w.heap.size + 1 ≤ k := fun k hk => own_base hO k hk
  have hgl := h.slt g h.sg
  refine ⟨h.tab.chg hc (fun e => by have := hlt _ e; omega) (fun i hi e => by have h1 := hlt _ e; have h2 := h.slt _ (h.low i (by rw [← h.tlen]; exact hi)); omega), h.box.chg hc (fun e => by have := hlt _ e; omega), h.chg.then_grown hg (fun k e => .inr (by have := hlt _ e; omega)), h.marks.keep fun D hD hd => ?_, h.len, h.tlen, h.low, h.sg, h.slt⟩
  refine (hc.block D (Array.getElem?_eq_some_iff.1 hd).1 fun e1 => ?_).trans hd
  obtain ⟨cells, hcl⟩ := own_typed hO D e1
  rw [hcl] at hd
  cases hd
theorem own_mono {w : World} {base base' n : Nat} {e : TypeId} {size : Nat} {v : Value} {xs : List Value} (h : w.ownsRow base e size v n xs) (hb : base' ≤ base) : w.ownsRow base' e size v n xs := by
  refine ⟨h.1, ?_⟩
  rcases h.2 with h1 | ⟨g, cap, cur, h1, h2, h3⟩
  · exact .inl h1
  · exact .inr ⟨g, cap, cur, h1, Nat.le_trans hb h2, h3⟩
def CJ (W0 : World) (base g : Nat) (bs : List Nat) (t : List (List Int)) (i : Nat) (a b : List Int) (k : Nat) (W : World) : Prop := Tab W base g bs (t.set i (mixRow a b k)) ∧ Chg (fun k => k = bs.getD i 0) W0 W
theorem CJ.own (W0 : World) (base g : Nat) (bs : List Nat) (t : List (List Int)) (i : Nat) (a b : List Int) {B : Nat} (hB : W0.heap.size ≤ B) : OwnFrom B (CJ W0 base g bs t i a b) := by
  rintro k W W' row ⟨h0, h1⟩ hg hr
  exact ⟨h0.kept hg (fun r e => (hr r e).2), h1.then_grown hg (fun k e => .inr (Nat.le_trans hB (hr k e).1))⟩
theorem rect_set {t : List (List Int)} {n i : Nat} {row : List Int} (h : Sig.Rect t n) (hl : row.length = n) (hr : ∀ x ∈ row, Sig.InF x) : Sig.Rect (t.set i row) n := fun r hm => by
  rcases List.mem_or_eq_of_mem_set hm with h1 | rfl
  · exact h r h1
  · exact ⟨hl, hr⟩
theorem rect_elim {t : List (List Int)} {n r c : Nat} (h : Sig.Rect t n) (hr : r < t.length) : ∀ j, j ≤ t.length → Sig.Rect (elim t r c j) n
  | 0, _ => h
  | j + 1, hj => by
    have ih := rect_elim (c := c) h hr j (by omega)
    rw [elim]
    split
    · exact ih
    · have h1 := (ih _ (Sig.getD_mem (show j < (elim t r c j).length by rw [elim_length]; omega))).1
      have h2 := (ih _ (Sig.getD_mem (show r < (elim t r c j).length by rw [elim_length]; omega))).1
      exact rect_set ih ((Sig.less_length (h1.trans h2.symm)).trans h1) (Sig.less_inF _ _ _)
theorem swap_at {t : List (List Int)} {r k : Nat} (hr : r < t.length) (hk : k < t.length) : ((t.set r (t.getD k [])).set k (t.getD r [])).getD r [] = t.getD k [] := by
  rw [getD_set_row (by simpa using hk), getD_set_row hr]
  by_cases e : k = r
  · subst e; rw [if_pos rfl]
  · rw [if_neg e, if_pos rfl]
theorem swap_rect {t : List (List Int)} {n r k : Nat} (h : Sig.Rect t n) (hr : r < t.length) (hk : k < t.length) : Sig.Rect ((t.set r (t.getD k [])).set k (t.getD r [])) n :=
  rect_set (rect_set h (h _ (Sig.getD_mem hk)).1 (h _ (Sig.getD_mem hk)).2) (h _ (Sig.getD_mem hr)).1 (h _ (Sig.getD_mem hr)).2
theorem scaled_rect {t : List (List Int)} {n r k c : Nat} (h : Sig.Rect t n) (hr : r < t.length) (hk : k < t.length) : Sig.Rect (scaled t r k c) n :=
  rect_set (swap_rect h hr hk) ((Sig.times_length _ _).trans (h _ (Sig.getD_mem hk)).1) (Sig.times_inF _ _)
theorem scaled_zero {t : List (List Int)} {r k c j d : Nat} (hr : r < t.length) (hk : k < t.length) (hj : j ≤ t.length) (hz : Sig.ent t k d = 0) : Sig.ent (elim (scaled t r k c) r c j) r d = 0 := by
  unfold Sig.ent
  rw [elim_getD _ _ _ _ (by simpa [scaled] using hj), if_neg (fun h => h.2 rfl), scaled_getD hr hk, if_pos rfl, Sig.times_getD]
  have : (t.getD k []).getD d 0 = 0 := hz
  rw [this, Int.zero_mul]; rfl
def onlyN (K : Act → World → Prop) : Exit → Act → World → Prop
  | .normal, a, w => K a w
  | .ret, _, _ => False
  | .exit _, _, _ => False
  | .goto _, _, _ => False
  | .panic _, _, _ => False
  | .outgrown, _, _ => False
theorem region_only {n : Nat} {P : Program} {c : Code} {K : Act → World → Prop} {Q : Exit → Act → World → Prop} {a : Act} {w : World}
    (h : ∀ K' : Act → World → Prop, (∀ a' w', K a' w' → K' a' w') → c.wp P (onlyN K') a w) : c.wpIn Fence.wide n P (Exit.then K Q) a w := by
  refine wpIn_mono (wpIn_wide.2 (h K (fun _ _ h => h))) ?_
  intro e a' w' hq
  cases e with
  | normal => exact hq
  | ret => exact hq.elim
  | exit id => exact hq.elim
  | goto t => exact hq.elim
  | panic ch => exact hq.elim
  | outgrown => exact hq.elim
end Go.Proofs.Ytdbamhckgaoibaa.P
namespace Go.Proofs.Ytdbamhckgaoibaa.P
open Go.RowKit Go.Proofs.YtdbamhckgaoibaaW.PrintWords Go.Proofs.YtdbamhckgaoibaaW.PrintLast Go.Proofs.YtdbamhckgaoibaaW.PrintMore
attribute [local go_sem] Oper.semAt_some
set_option linter.unusedVariables false
set_option linter.unusedSimpArgs false
def IterC (g : Nat) (lb : Array Value) (w : World) (yv : List Value) : Prop :=
  ∀ (l : Nat) (W1 : World) (J : Nat → World → Prop), (∀ k W, J k W → Below w.heap.size w W) → (∀ k W W', J k W → Below W.heap.size W W' → J k W') →
    (∀ k W v, yv[k]? = some v → J k W → YieldAt Fence.wide 7 Try.prog l #[v] W fun e W' => e = .returned (.bool true) ∧ J (k + 1) W') → J 0 W1 →
    CallsIn Fence.wide 8 Try.prog g (#[.func (.yield l) #[] #[]] ++ lb) W1 fun e W' => (∃ v, e = .returned v) ∧ J yv.length W'
def AI (w : World) (Bq : Nat) (yv : List Value) (k : Nat) (W : World) : Prop :=
  ∃ v, Bx W Bq v ∧ W.ownsRow (Bq + 1) 23 1 v k (yv.take k) ∧ Below Bq w W
theorem AI.own (w : World) (Bq : Nat) (yv : List Value) {B : Nat} (hB : Bq ≤ B) (hw : Bq ≤ w.heap.size) : OwnFrom B (AI w Bq yv) := by
  rintro k W W' row ⟨v, h1, h2, h3⟩ hg hr
  exact ⟨v, h1.kept hg (fun r e => (hr r e).2), own_nocell h2 hg (fun r e => (hr r e).2), h3.grown hg (Nat.le_trans hw h3.size) (fun k e => Nat.le_trans hB (hr k e).1)⟩
theorem keeps_own {W W' : World} {base n size : Nat} {e : TypeId} {v : Value} {xs : List Value} (hO : W.ownsRow base e size v n xs) (hg : W.grownBy W' v.ownBlock) : KeepsOthers W W' :=
  ⟨hg.size, fun k o hk hf => (hg.block k (Array.getElem?_eq_some_iff.1 hk).1 (fun e1 => by
    obtain ⟨cells, hcl⟩ := own_typed hO k e1.symm
    rw [hcl] at hk
    cases hk
    simp [Obj.isCells] at hf)).trans hk⟩
theorem AI.below {w : World} {Bq : Nat} {yv : List Value} {k : Nat} {W W' : World} (h : AI w Bq yv k W) (hb : Below W.heap.size W W') (hw : Bq ≤ w.heap.size) : AI w Bq yv k W' := by
  obtain ⟨v, h1, h2, h3⟩ := h
  exact ⟨v, h1.below hb, own_below h2 hb, h3.trans (hb.mono (Nat.le_trans hw h3.size))⟩
set_option maxRecDepth 100000 in
set_option maxHeartbeats 4000000 in
theorem appendSeq_c {g : Nat} {lb : Array Value} {w : World} {yv : List Value} (eg : ∀ args w, (callFunc g args).run Try.prog w = .ok (.enter g args) w) (hit : IterC g lb w yv) (h1 : ∀ v ∈ yv, ∃ A n c, v = Value.slice A n c) (hl : yv.length ≤ 1000000) :
    Calls Try.prog 170 #[.slice none 0 0, .func (.func g) #[] lb] w fun e w' => ∃ v, e = .returned v ∧ w'.ownsRow (w.heap.size + 1) 23 1 v yv.length yv ∧ Below w.heap.size w w' := by
  have HIT := Aside0.mk hit
  have H1 := Aside0.mk h1
  clear hit h1
  refine (callsIn_wide (n := 9)).1 ?_
  refine callsIn_of_wp_marks Try.func170 rfl trivial ?_ rfl
  simp only [Try.ntmps170, List.size_toArray, List.length_cons, List.length_nil, Nat.reduceAdd, Nat.reduceSub, Array.replicate_succ, Array.replicate_zero, List.push_toArray, List.append_toArray, List.nil_append, List.cons_append]
  gi_wp2
  obtain ⟨W0, hW0⟩ : ∃ W0, w.alloc (.cells #[.slice none 0 0] 22) = W0 := ⟨_, rfl⟩
  rw [hW0]
  have hb0 : Below w.heap.size w W0 := by rw [← hW0]; exact (Below.refl _ _).alloc (Nat.le_refl _) _
  have hx0 : Bx W0 w.heap.size (.slice none 0 0) := by rw [← hW0]; exact Bx.new _ _ _
  have hz0 : W0.heap.size = w.heap.size + 1 := by rw [← hW0]; simp
  have HB0 := Aside0.mk hb0
  have HZ0 := Aside0.mk hz0
  have h0 : AI w w.heap.size yv 0 W0 := ⟨_, hx0, World.ownsRow_nil _ _ _ _, hb0⟩
  have H0 := Aside0.mk h0
  clear hW0 hb0 hx0 hz0 h0
  refine range_all (by omega) rfl eg (AI w w.heap.size yv) 0 (fun k => k = yv.length) (fun k vs k' => k < yv.length ∧ vs = #[yv.getD k undef] ∧ k' = k + 1) ?_ H0.out ?_ ?_ ?_ ?_
  · exact AI.own _ _ _ (by rw [HZ0.out]; omega) (Nat.le_refl _)
  · rintro k vs k' ⟨_, rfl, _⟩; rfl
  · intro l W1 J hs hJI hJ hY hj0
    refine (HIT.out l W1 J (fun k W h => (hJI k W h).choose_spec.2.2) (fun k W W' h hb => hJ k k W W' h ((keeps_below hb).from _) ((hJI k W h).below hb (Nat.le_refl _))) (fun k W v hv h => ?_) hj0).mono (fun e W' h => ⟨h.1, yv.length, rfl, h.2⟩)
    have hlt := (List.getElem?_eq_some_iff.1 hv).1
    have hv' : v = yv.getD k undef := by rw [List.getD_eq_getElem?_getD, hv]; rfl
    rw [hv']
    exact hY k _ _ W ⟨hlt, rfl, rfl⟩ h
  · rintro l k vs k' W ⟨hk, rfl, rfl⟩ hI
    have HI := Aside0.mk hI
    clear hI
    obtain ⟨y, hy⟩ : ∃ y, y = yv.getD k undef := ⟨_, rfl⟩
    rw [← hy]
    obtain ⟨yA, yn, yc, hy1⟩ := H1.out y (by rw [hy, List.getD_eq_getElem?_getD, List.getElem?_eq_getElem hk]; exact List.getElem_mem hk)
    have hyt : yv.take (k + 1) = yv.take k ++ [y] := by rw [List.take_succ_eq_append_getElem hk, hy, List.getD_eq_getElem?_getD, List.getElem?_eq_getElem hk]; rfl
    have HYT := Aside0.mk hyt
    subst hy1
    clear hy hyt
    gi_wp2
    refine ⟨KeepsFrom.refl _ _, HI.out, ?_⟩
    clear HI
    rintro W2 ⟨v, hx, ho, hb⟩
    have e2 := hx.1
    have f2 := hx.2
    have hlt := hx.lt
    have HX := Aside0.mk hx
    have HB := Aside0.mk hb
    have HOA := Aside0.mk (own_below ho ((Below.refl _ W2).alloc (Nat.le_refl _) (.cells #[.slice yA yn yc] 23)))
    have HO := Aside0.mk ho
    obtain ⟨i0, hi0, hz0, hz1, hz2⟩ := info_parts (P := Try.prog) (e := 23) (z := .slice none 0 0) (size := 1) (bytes := 24) (by kernel_rfl)
    obtain ⟨vA, vc, rfl⟩ := own_len ho
    clear hx hb ho
    gi_wp2_with (gi_at_builtin; refine wpListIn_append_own _ rfl _ _ 22 rfl (w.heap.size + 1) 23 i0 (.slice none 0 0) 1 24 (by kernel_rfl) hi0 hz0 hz1 hz2 rfl (by decide) _ _ _ rfl HOA.out ⟨W2.heap.size, 0, none⟩ 1 1 [.slice yA yn yc] rfl ?qc1 ?qc2 ?qc3 ?qc4 ?qc5 ?qc6 ?_)
    case qc1 => rfl
    case qc2 =>
      intro j u hj
      have hj1 := (List.getElem?_eq_some_iff.1 hj).1
      obtain rfl : j = 0 := by simpa using hj1
      simp only [List.getElem?_cons_zero, Option.some.injEq] at hj
      subst hj
      exact (Bx.new W2 (.slice yA yn yc) 23).1
    case qc3 => intro u hu; simp only [List.mem_singleton] at hu; subst hu; rfl
    case qc4 => unfold maxLen; omega
    case qc5 => omega
    case qc6 => simp; omega
    intro v' w9 hown hgrow hnil
    clear hnil
    obtain ⟨vA', vc', rfl⟩ := own_len hown
    have hch : Chg (fun b => (Value.slice vA k vc).ownBlock = some b) (W2.alloc (.cells #[.slice yA yn yc] 23)) w9 := (Chg.refl _ _).then_grown hgrow (fun b e => .inl e)
    have hx9 := (HX.out.alloc (.cells #[.slice yA yn yc] 23)).chg hch (fun e => by have := own_base HO.out _ e; omega)
    have e9 := hx9.1
    have f9 := hx9.2
    have HX9 := Aside0.mk hx9
    have HW9 := Aside0.mk hown
    have hk9 : KeepsOthers W2 w9 := (keeps_below ((Below.refl _ W2).alloc (Nat.le_refl _) (.cells #[.slice yA yn yc] 23))).trans (keeps_own HOA.out hgrow)
    have hb9 : Below w.heap.size w w9 := by
      refine (HB.out.alloc HB.out.size (.cells #[.slice yA yn yc] 23)).grown hgrow (by simp; omega) (fun b e => by have := own_base HO.out _ e; omega)
    have HK9 := Aside0.mk hk9
    have HB9 := Aside0.mk hb9
    clear hown hgrow e2 f2 hi0 hz0 hz1 hz2 i0 hch hx9 hk9 hb9
    gi_wp2
    refine ⟨(HK9.out.trans (KeepsOthers.setCell _ _ _)).from _, _, HX9.out.set _, ?_, HB9.out.setCell (Nat.le_refl _) _⟩
    rw [HYT.out]
    exact own_far HW9.out (Nat.lt_succ_self _) _
  · rintro D k W hD rfl ⟨v, hx, ho, hb⟩ hK
    have e2 := hx.1
    have HO := Aside0.mk ho
    have HB := Aside0.mk hb
    have hDw : w.heap.size ≤ D := by have := HZ0.out; omega
    clear hx ho hb
    gi_wp2
    refine ⟨by simp, .inl ⟨_, _, rfl, run_takeDeferred hK, ?_⟩⟩
    refine ⟨v, by simp [results, Try.results170, go_sem], v, rfl, ?_, HB.out.grown (grownBy_putObj' W D (.deferred none)) HB.out.size (fun b e => by cases e; exact hDw)⟩
    have := own_nocell HO.out (grownBy_putObj' W D (.deferred none)) (fun r e => by cases e; exact ⟨_, hK, rfl⟩)
    rw [List.take_length] at this
    exact this
theorem collect_c {g : Nat} {lb : Array Value} {w : World} {yv : List Value} (eg : ∀ args w, (callFunc g args).run Try.prog w = .ok (.enter g args) w) (hit : IterC g lb w yv) (h1 : ∀ v ∈ yv, ∃ A n c, v = Value.slice A n c) (hl : yv.length ≤ 1000000) :
    Calls Try.prog 93 #[.func (.func g) #[] lb] w fun e w' => ∃ v, e = .returned v ∧ w'.ownsRow (w.heap.size + 1) 23 1 v yv.length yv ∧ Below w.heap.size w w' := by
  have HC := Aside0.mk (appendSeq_c eg hit h1 hl)
  clear eg hit h1
  go_enter Try.func93, Try.ntmps93
  go_wp2_with (go_at_call 170; refine HC.out.mono ?_; rintro e w' ⟨v, rfl, h1, h2⟩; have H1 := Aside0.mk h1; have H2 := Aside0.mk h2; clear h1 h2)
  go_ret
  exact ⟨_, rfl, H1.out, H2.out⟩
theorem C_of_own {W : World} {base : Nat} {v : Value} {yv : List Value} {rows : List (List Int)} (ho : W.ownsRow base 23 1 v yv.length yv) (hl : yv.length = rows.length) (hb : rows.length ≤ 1000000) (hr : ∀ i, i < rows.length → ∃ A c, yv[i]? = some (.slice A (rows.getD i []).length c) ∧ (rows.getD i []).length ≤ c ∧ Kd.C (Kd.int .i64) W A (rows.getD i []).length (rows.getD i [])) :
    ∃ A c, v = .slice A rows.length c ∧ rows.length ≤ c ∧ Kd.C (Kd.slice 3 (Kd.int .i64)) W A rows.length rows := by
  rcases ho.2 with ⟨rfl, h0⟩ | ⟨g, cap, cur, rfl, hg, hh, hc1, hc2, hc3, hc4⟩
  · exact ⟨none, 0, by rw [← hl, h0], by omega, rfl, by omega, fun h => by omega⟩
  · rw [hl] at hc1
    refine ⟨some ⟨g, 0, none⟩, cap, by rw [hl], hc1, rfl, by omega, fun h => ⟨⟨g, 0, none⟩, rfl, fun j p hj => ?_⟩⟩
    have hjl := (List.getElem?_eq_some_iff.1 hj).1
    obtain ⟨A, c, h1, h2, h3⟩ := hr j hjl
    have hp : rows.getD j [] = p := by rw [List.getD_eq_getElem?_getD, hj]; rfl
    rw [hp] at h1 h2 h3
    refine ⟨[.slice A p.length c], rfl, ⟨A, c, rfl, h2, h3⟩, fun i u hu => ?_⟩
    have hi1 := (List.getElem?_eq_some_iff.1 hu).1
    obtain rfl : i = 0 := by simpa using hi1
    simp only [List.getElem?_cons_zero, Option.some.injEq] at hu
    subst hu
    have := ho.cells (g := g) rfl j _ h1
    show W.cell? (Addr.add ⟨g, 0, none⟩ (j * 1 + 0)) = _
    rw [Nat.mul_one, Nat.add_zero]
    exact this
end Go.Proofs.Ytdbamhckgaoibaa.P
namespace Go.Proofs.Ytdbamhckgaoibaa.P
open Go.RowKit Go.Proofs.YtdbamhckgaoibaaW.PrintWords Go.Proofs.YtdbamhckgaoibaaW.PrintLast Go.Proofs.YtdbamhckgaoibaaW.PrintMore
set_option linter.unusedVariables false
set_option linter.unusedSimpArgs false
def Says (g : Nat) (p : Int → Bool) : Prop := ∀ (x : Int) (W : World), Calls Try.prog g #[.int .i64 x] W fun e w' => e = .returned (.bool (p x)) ∧ Drawn0 W w'
def Found (p : Int → Bool) (l : List Int) (w : World) (e : Ending) (w' : World) : Prop := ∃ i : Int, e = .returned (.int .i64 i) ∧ decide (0 ≤ i) = l.any p ∧ Drawn0 w w'
theorem any_take_stop {p : Int → Bool} {l : List Int} {j : Nat} (hj : j < l.length) (h : p l[j] = true) : l.any p = true := by
  rw [List.any_eq_true]; exact ⟨l[j], List.getElem_mem hj, h⟩
theorem any_take_next {p : Int → Bool} {l : List Int} {j : Nat} (hj : j < l.length) (h0 : (l.take j).any p = false) (h : p l[j] = false) : (l.take (j + 1)).any p = false := by
  rw [List.take_succ_eq_append_getElem hj, List.any_append, h0]; simp [h]
set_option maxHeartbeats 1000000 in
theorem index_any {g : Nat} {p : Int → Bool} (hs : Says g p) (eg : ∀ args w, (callFunc g args).run Try.prog w = .ok (.enter g args) w) (A0 : Option Addr) (c0 : Nat) (l : List Int) (w : World) (hr : Kd.C (Kd.int .i64) w A0 l.length l) :
    Calls Try.prog 194 #[.slice A0 l.length c0, .func (.func g) #[] #[]] w (Found p l w) := by
  have HS := Aside0.mk hs
  have HR := Aside0.mk hr
  have hlen : l.length ≤ 9223372036854775807 := hr.2.1
  clear hs hr
  go_enter Try.func194, Try.ntmps194
  go_wp2
  go_loopg [8] l.length (fun gk v8 w' => ∃ j : Nat, j + gk = l.length ∧ v8 = .int .i64 (j : Int) ∧ Aside0 ((l.take j).any p = false) ∧ Drawn0 w w')
  case atStart => exact ⟨0, by omega, rfl, ⟨by simp⟩, by repeat (first | exact Drawn0.refl _ | apply Drawn0.step)⟩
  case round =>
    obtain ⟨j, hj, rfl, HA, ⟨m, rfl⟩⟩ := hrel
    by_cases hlt : j < l.length
    · have c1 : decide ((j : Int) < (l.length : Int)) = true := decide_eq_true (by omega)
      have c2 : decide (j < l.length) = true := decide_eq_true hlt
      obtain ⟨ad, e, hx⟩ := Kd.at_int HR.out (j : Int) (by omega) (by omega)
      cases e
      rw [Int.toNat_natCast] at hx
      have hrd : rd l (j : Int) = l[j] := by
        unfold rd
        rw [Int.toNat_natCast, List.getD_eq_getElem?_getD, List.getElem?_eq_getElem hlt]; rfl
      rw [hrd] at hx
      have c3 : (0 : Int) ≤ (j : Int) := by omega
      generalize hy : l[j] = y at hx
      have HY := Aside0.mk hy
      clear hy hrd
      go_wp2_with fail
      refine (HS.out _ _).mono ?_
      rintro e w' ⟨rfl, ⟨nd, rfl⟩⟩
      cases hpy : p y with
      | true =>
        have hf : l.any p = true := any_take_stop hlt (by rw [HY.out]; exact hpy)
        have HF := Aside0.mk hf
        clear hf hpy
        go_wp2
        go_ret
        exact ⟨(j : Int), by first | rfl | simp, by rw [HF.out]; exact decide_eq_true (by omega), by repeat (first | exact Drawn0.refl _ | apply Drawn0.step)⟩
      | false =>
        have HF := Aside0.mk (any_take_next hlt HA.out (by rw [HY.out]; exact hpy))
        clear hpy
        go_wp2
        go_roundg (gk - 1)
        case measure => omega
        case rel => exact ⟨j + 1, by omega, by go_num, HF, by repeat (first | exact Drawn0.refl _ | apply Drawn0.step)⟩
    · have hje : j = l.length := by omega
      have c1 : decide ((j : Int) < (l.length : Int)) = false := decide_eq_false (by omega)
      have c2 : decide (j < l.length) = false := decide_eq_false (by omega)
      have hf : l.any p = false := by have := HA.out; rw [hje, List.take_length] at this; exact this
      have HF := Aside0.mk hf
      clear hf hje
      go_wp2
      go_ret
      exact ⟨-1, by first | rfl | simp, by rw [HF.out]; rfl, by repeat (first | exact Drawn0.refl _ | apply Drawn0.step)⟩
theorem contains_any {g : Nat} {p : Int → Bool} (hs : Says g p) (eg : ∀ args w, (callFunc g args).run Try.prog w = .ok (.enter g args) w) (A0 : Option Addr) (c0 : Nat) (l : List Int) (w : World) (hr : Kd.C (Kd.int .i64) w A0 l.length l) :
    Calls Try.prog 161 #[.slice A0 l.length c0, .func (.func g) #[] #[]] w fun e w' => e = .returned (.bool (l.any p)) ∧ Drawn0 w w' := by
  have HS := Aside0.mk hs
  have HR := Aside0.mk hr
  have HE := Aside0.mk eg
  clear hs hr eg
  have HG := fun W => index_any HS.out HE.out A0 c0 l W
  unfold Found at HG
  generalize l.any p = b at HG ⊢
  have HG := Aside0.mk HG
  go_enter Try.func161, Try.ntmps161
  go_wp2_with fail
  refine (HG.out _ HR.out).mono ?_
  rintro e w' ⟨i, rfl, hi, ⟨nd, rfl⟩⟩
  go_wp2
  go_ret
  exact ⟨by first | rfl | simp, by repeat (first | exact Drawn0.refl _ | apply Drawn0.step)⟩
def SaysL (g : Nat) (p : List Int → Bool) : Prop := ∀ (A : Option Addr) (c : Nat) (x : List Int) (W : World), Calls Try.prog g #[.slice A x.length c] W fun e w' => e = .returned (.bool (p x)) ∧ Drawn0 W w'
def FoundL (p : List Int → Bool) (l : List (List Int)) (w : World) (e : Ending) (w' : World) : Prop := ∃ i : Int, e = .returned (.int .i64 i) ∧ decide (0 ≤ i) = l.any p ∧ Drawn0 w w'
theorem anyL_take_stop {p : List Int → Bool} {l : List (List Int)} {j : Nat} (hj : j < l.length) (h : p l[j] = true) : l.any p = true := by
  rw [List.any_eq_true]; exact ⟨l[j], List.getElem_mem hj, h⟩
theorem anyL_take_next {p : List Int → Bool} {l : List (List Int)} {j : Nat} (hj : j < l.length) (h0 : (l.take j).any p = false) (h : p l[j] = false) : (l.take (j + 1)).any p = false := by
  rw [List.take_succ_eq_append_getElem hj, List.any_append, h0]; simp [h]
set_option maxHeartbeats 1000000 in
theorem indexL_any {g : Nat} {p : List Int → Bool} (hs : SaysL g p) (eg : ∀ args w, (callFunc g args).run Try.prog w = .ok (.enter g args) w) (A0 : Option Addr) (c0 : Nat) (l : List (List Int)) (w : World) (hr : Kd.C (Kd.slice 3 (Kd.int .i64)) w A0 l.length l) :
    Calls Try.prog 193 #[.slice A0 l.length c0, .func (.func g) #[] #[]] w (FoundL p l w) := by
  have HS := Aside0.mk hs
  have HR := Aside0.mk hr
  have hlen : l.length ≤ 9223372036854775807 := hr.2.1
  clear hs hr
  go_enter Try.func193, Try.ntmps193
  go_wp2
  go_loopg [8] l.length (fun gk v8 w' => ∃ j : Nat, j + gk = l.length ∧ v8 = .int .i64 (j : Int) ∧ Aside0 ((l.take j).any p = false) ∧ Drawn0 w w')
  case atStart => exact ⟨0, by omega, rfl, ⟨by simp⟩, by repeat (first | exact Drawn0.refl _ | apply Drawn0.step)⟩
  case round =>
    obtain ⟨j, hj, rfl, HA, ⟨m, rfl⟩⟩ := hrel
    by_cases hlt : j < l.length
    · have c1 : decide ((j : Int) < (l.length : Int)) = true := decide_eq_true (by omega)
      have c2 : decide (j < l.length) = true := decide_eq_true hlt
      obtain ⟨ad, A1, c3, e, hx, hx2, hx3⟩ := at_L1 HR.out (j : Int) (by omega) (by omega)
      cases e
      rw [Int.toNat_natCast] at hx
      have hrd : rd_L1 l (j : Int) = l[j] := by
        unfold rd_L1
        rw [Int.toNat_natCast, List.getD_eq_getElem?_getD, List.getElem?_eq_getElem hlt]; rfl
      rw [hrd] at hx
      clear hx2 hx3
      have c4 : (0 : Int) ≤ (j : Int) := by omega
      generalize hy : l[j] = y at hx
      have HY := Aside0.mk hy
      clear hy hrd
      go_wp2_with fail
      refine (HS.out _ _ _ _).mono ?_
      rintro e w' ⟨rfl, ⟨nd, rfl⟩⟩
      cases hpy : p y with
      | true =>
        have hf : l.any p = true := anyL_take_stop hlt (by rw [HY.out]; exact hpy)
        have HF := Aside0.mk hf
        clear hf hpy
        go_wp2
        go_ret
        exact ⟨(j : Int), by first | rfl | simp, by rw [HF.out]; exact decide_eq_true (by omega), by repeat (first | exact Drawn0.refl _ | apply Drawn0.step)⟩
      | false =>
        have HF := Aside0.mk (anyL_take_next hlt HA.out (by rw [HY.out]; exact hpy))
        clear hpy
        go_wp2
        go_roundg (gk - 1)
        case measure => omega
        case rel => exact ⟨j + 1, by omega, by go_num, HF, by repeat (first | exact Drawn0.refl _ | apply Drawn0.step)⟩
    · have hje : j = l.length := by omega
      have c1 : decide ((j : Int) < (l.length : Int)) = false := decide_eq_false (by omega)
      have c2 : decide (j < l.length) = false := decide_eq_false (by omega)
      have hf : l.any p = false := by have := HA.out; rw [hje, List.take_length] at this; exact this
      have HF := Aside0.mk hf
      clear hf hje
      go_wp2
      go_ret
      exact ⟨-1, by first | rfl | simp, by rw [HF.out]; rfl, by repeat (first | exact Drawn0.refl _ | apply Drawn0.step)⟩
theorem containsL_any {g : Nat} {p : List Int → Bool} (hs : SaysL g p) (eg : ∀ args w, (callFunc g args).run Try.prog w = .ok (.enter g args) w) (A0 : Option Addr) (c0 : Nat) (l : List (List Int)) (w : World) (hr : Kd.C (Kd.slice 3 (Kd.int .i64)) w A0 l.length l) :
    Calls Try.prog 157 #[.slice A0 l.length c0, .func (.func g) #[] #[]] w fun e w' => e = .returned (.bool (l.any p)) ∧ Drawn0 w w' := by
  have HS := Aside0.mk hs
  have HR := Aside0.mk hr
  have HE := Aside0.mk eg
  clear hs hr eg
  have HG := fun W => indexL_any HS.out HE.out A0 c0 l W
  unfold FoundL at HG
  generalize l.any p = b at HG ⊢
  have HG := Aside0.mk HG
  go_enter Try.func157, Try.ntmps157
  go_wp2_with fail
  refine (HG.out _ HR.out).mono ?_
  rintro e w' ⟨i, rfl, hi, ⟨nd, rfl⟩⟩
  go_wp2
  go_ret
  exact ⟨by first | rfl | simp, by repeat (first | exact Drawn0.refl _ | apply Drawn0.step)⟩
def outQ (x : Int) : Bool := decide (x < 0) || decide (1073741789 ≤ x)
theorem outQ_low {x : Int} (h : x < 0) : outQ x = true := by simp [outQ, h]
theorem outQ_high {x : Int} (h : ¬ x < 0) : outQ x = decide (1073741789 ≤ x) := by simp [outQ, h]
theorem says_numbers : Says 162 outQ := by
  intro x w
  by_cases h : x < 0
  · have b1 : decide (x < 0) = true := decide_eq_true h
    rw [outQ_low h]
    go_enter Try.func162, Try.ntmps162
    go_wp2
    go_ret
    exact ⟨rfl, by repeat (first | exact Drawn0.refl _ | apply Drawn0.step)⟩
  · have b1 : decide (x < 0) = false := decide_eq_false h
    rw [outQ_high h]
    go_enter Try.func162, Try.ntmps162
    go_wp2
    go_ret
    exact ⟨rfl, by repeat (first | exact Drawn0.refl _ | apply Drawn0.step)⟩
theorem says_linear : Says 205 outQ := by
  intro x w
  by_cases h : x < 0
  · have b1 : decide (x < 0) = true := decide_eq_true h
    rw [outQ_low h]
    go_enter Try.func205, Try.ntmps205
    go_wp2
    go_ret
    exact ⟨rfl, by repeat (first | exact Drawn0.refl _ | apply Drawn0.step)⟩
  · have b1 : decide (x < 0) = false := decide_eq_false h
    rw [outQ_high h]
    go_enter Try.func205, Try.ntmps205
    go_wp2
    go_ret
    exact ⟨rfl, by repeat (first | exact Drawn0.refl _ | apply Drawn0.step)⟩
theorem within_math (a b c : Int) : program_within.f a b c = some (decide (b ≤ a) && decide (a ≤ c)) := by
  unfold program_within.f
  by_cases h : b ≤ a <;> simp [h]
theorem within_c (a b c : Int) (w : World) : Calls Try.prog 159 #[.int .i64 a, .int .i64 b, .int .i64 c] w fun e w' => e = .returned (.bool (decide (b ≤ a) && decide (a ≤ c))) ∧ Drawn0 w w' :=
  program_within.calls a b c _ w (within_math a b c)
theorem outQ_within (x : Int) : outQ x = !(decide (0 ≤ x) && decide (x ≤ 1073741788)) := by
  unfold outQ
  by_cases h1 : x < 0 <;> by_cases h2 : 1073741789 ≤ x <;> simp [h1, h2] <;> omega
theorem says_odd : Says 158 outQ := by
  intro x w
  rw [outQ_within]
  have H := Aside0.mk (fun W => within_c x 0 1073741788 W)
  generalize (decide (0 ≤ x) && decide (x ≤ 1073741788)) = b at H ⊢
  go_enter Try.func158, Try.ntmps158
  go_wp2_with fail
  refine (H.out _).mono ?_
  rintro e w' ⟨rfl, ⟨nd, rfl⟩⟩
  go_wp2
  go_ret
  exact ⟨by first | rfl | simp, by repeat (first | exact Drawn0.refl _ | apply Drawn0.step)⟩
def noEl (x : Int) : Bool := !isEl x
theorem says_noEl : Says 175 noEl := by
  intro x w
  unfold noEl
  have H := Aside0.mk (fun W => group_Valid.calls x _ W rfl)
  generalize isEl x = b at H ⊢
  go_enter Try.func175, Try.ntmps175
  go_wp2_with fail
  refine (H.out _).mono ?_
  rintro e w' ⟨rfl, ⟨nd, rfl⟩⟩
  go_wp2
  go_ret
  exact ⟨by first | rfl | simp, by repeat (first | exact Drawn0.refl _ | apply Drawn0.step)⟩
def isLong (x : List Int) : Bool := decide (64 < x.length)
theorem says_long : SaysL 156 isLong := by
  intro A c x w
  have e : isLong x = decide (64 < (x.length : Int)) := by unfold isLong; congr 1; exact propext ⟨fun h => by omega, fun h => by omega⟩
  rw [e]
  clear e
  go_enter Try.func156, Try.ntmps156
  go_wp2
  go_ret
  exact ⟨by first | rfl | simp, by repeat (first | exact Drawn0.refl _ | apply Drawn0.step)⟩
def contains_outQ.f (l0 : List Int) : Option Bool := some (l0.any outQ)
theorem contains_outQ.calls (A0 : Option Addr) (c0 : Nat) (l0 : List Int) (r : Bool) (w : World) (hr0 : Kd.C (Kd.int .i64) w A0 l0.length l0) (hc0 : l0.length ≤ c0) (h : contains_outQ.f l0 = some r) :
    Calls Try.prog 161 #[.slice A0 l0.length c0, .func (.func 162) #[] #[]] w fun e w' => e = .returned (.bool r) ∧ Drawn0 w w' := by
  obtain rfl := Option.some.inj h
  exact contains_any says_numbers (enters_of Try.func162 (by kernel_rfl) rfl) A0 c0 l0 w hr0
def contains_odd.f (l0 : List Int) : Option Bool := some (l0.any outQ)
theorem contains_odd.calls (A0 : Option Addr) (c0 : Nat) (l0 : List Int) (r : Bool) (w : World) (hr0 : Kd.C (Kd.int .i64) w A0 l0.length l0) (hc0 : l0.length ≤ c0) (h : contains_odd.f l0 = some r) :
    Calls Try.prog 161 #[.slice A0 l0.length c0, .func (.func 158) #[] #[]] w fun e w' => e = .returned (.bool r) ∧ Drawn0 w w' := by
  obtain rfl := Option.some.inj h
  exact contains_any says_odd (enters_of Try.func158 (by kernel_rfl) rfl) A0 c0 l0 w hr0
def contains_oddL.f (l0 : List Int) : Option Bool := some (l0.any outQ)
theorem contains_oddL.calls (A0 : Option Addr) (c0 : Nat) (l0 : List Int) (r : Bool) (w : World) (hr0 : Kd.C (Kd.int .i64) w A0 l0.length l0) (hc0 : l0.length ≤ c0) (h : contains_oddL.f l0 = some r) :
    Calls Try.prog 161 #[.slice A0 l0.length c0, .func (.func 205) #[] #[]] w fun e w' => e = .returned (.bool r) ∧ Drawn0 w w' := by
  obtain rfl := Option.some.inj h
  exact contains_any says_linear (enters_of Try.func205 (by kernel_rfl) rfl) A0 c0 l0 w hr0
def contains_noEl.f (l0 : List Int) : Option Bool := some (l0.any noEl)
theorem contains_noEl.calls (A0 : Option Addr) (c0 : Nat) (l0 : List Int) (r : Bool) (w : World) (hr0 : Kd.C (Kd.int .i64) w A0 l0.length l0) (hc0 : l0.length ≤ c0) (h : contains_noEl.f l0 = some r) :
    Calls Try.prog 161 #[.slice A0 l0.length c0, .func (.func 175) #[] #[]] w fun e w' => e = .returned (.bool r) ∧ Drawn0 w w' := by
  obtain rfl := Option.some.inj h
  exact contains_any says_noEl (enters_of Try.func175 (by kernel_rfl) rfl) A0 c0 l0 w hr0
def contains_long.f (l0 : List (List Int)) : Option Bool := some (l0.any isLong)
theorem contains_long.calls (A0 : Option Addr) (c0 : Nat) (l0 : List (List Int)) (r : Bool) (w : World) (hr0 : Kd.C (Kd.slice 3 (Kd.int .i64)) w A0 l0.length l0) (hc0 : l0.length ≤ c0) (h : contains_long.f l0 = some r) :
    Calls Try.prog 157 #[.slice A0 l0.length c0, .func (.func 156) #[] #[]] w fun e w' => e = .returned (.bool r) ∧ Drawn0 w w' := by
  obtain rfl := Option.some.inj h
  exact containsL_any says_long (enters_of Try.func156 (by kernel_rfl) rfl) A0 c0 l0 w hr0
end Go.Proofs.Ytdbamhckgaoibaa.P
namespace Go.Proofs.Ytdbamhckgaoibaa.P
open Go.RowKit Go.Proofs.YtdbamhckgaoibaaW.PrintWords Go.Proofs.YtdbamhckgaoibaaW.PrintLast Go.Proofs.YtdbamhckgaoibaaW.PrintMore
set_option linter.unusedVariables false
set_option linter.unusedSimpArgs false
def sumQ (f : Nat → Int) : Nat → Int
  | 0 => 0
  | k + 1 => (sumQ f k + f k) % 1073741789
theorem wrap_next {j : Nat} (h : j < 9223372036854775807) : wrap64 ((j : Int) + 1) = ((j + 1 : Nat) : Int) := by unfold wrap64; omega
set_option maxHeartbeats 1000000 in
theorem sumInt_c {g : Nat} (eg : ∀ args w, (callFunc g args).run Try.prog w = .ok (.enter g args) w) (p : Addr) (f : Nat → Int) (A0 : Option Addr) (c0 : Nat) (l : List Int) (w : World) (hr : Kd.C (Kd.int .i64) w A0 l.length l)
    (hg : ∀ (i : Nat) (W : World), i < l.length → Below w.heap.size w W → Calls Try.prog g #[.int .i64 (i : Int), .int .i64 (rd l (i : Int)), .pointer (some p)] W fun e w' => e = .returned (.int .i64 (f i)) ∧ Drawn0 W w') :
    Calls Try.prog 164 #[.slice A0 l.length c0, .func (.func g) #[] #[.pointer (some p)]] w fun e w' => e = .returned (.int .i64 (sumQ f l.length)) ∧ Below w.heap.size w w' := by
  have HG := Aside0.mk hg
  have HR := Aside0.mk hr
  have hlen : l.length ≤ 9223372036854775807 := hr.2.1
  clear hr hg
  go_enter Try.func164, Try.ntmps164
  go_wp2
  go_loopg [4, 9] l.length (fun gk v4 v9 w' => ∃ j : Nat, j ≤ l.length ∧ gk = l.length - j ∧ v9 = .int .i64 (j : Int) ∧ v4 = .int .i64 (sumQ f j) ∧ Aside0 (Below w.heap.size w w'))
  case atStart => exact ⟨0, Nat.zero_le _, rfl, rfl, rfl, ⟨by first | exact Below.refl _ _ | exact pw_below_drewN (Below.refl _ _) _⟩⟩
  case round =>
    obtain ⟨j, hj, rfl, rfl, rfl, HB⟩ := hrel
    by_cases hlt : j < l.length
    · have c1 : decide ((j : Int) < (l.length : Int)) = true := decide_eq_true (by omega)
      have c2 : decide (j < l.length) = true := decide_eq_true hlt
      have c4 : (0 : Int) ≤ (j : Int) := by omega
      obtain ⟨ad, e, hx⟩ := Kd.at_int HR.out (j : Int) (by omega) (by omega)
      cases e
      rw [Int.toNat_natCast] at hx
      have hcall := HG.out j wr hlt HB.out
      replace hx := (HB.out.cell (World.block_lt_of_cell? w _ hx)).trans hx
      generalize rd l (j : Int) = x at hx hcall
      have hS : sumQ f (j + 1) = (sumQ f j + f j) % 1073741789 := rfl
      generalize f j = fj at hcall hS
      have HS := Aside0.mk hS
      have HC := Aside0.mk hcall
      have HL := Aside0.mk hlen
      clear hS hcall HG hlen
      go_wp2_with (go_at_call 36; refine (field_Add_m.calls _ _ _ _ rfl).mono ?_; rintro e w2 ⟨rfl, hb2⟩; have HB2 := Aside0.mk hb2; clear hb2)
      refine HC.out.mono ?_
      rintro e w1 ⟨rfl, ⟨nd, rfl⟩⟩
      go_wp2_with (go_at_call 36; refine (field_Add_m.calls _ _ _ _ rfl).mono ?_; rintro e w2 ⟨rfl, hb2⟩; have HB2 := Aside0.mk (below_then (pw_below_drewN HB.out nd) (by exact HB.out.size) hb2); clear hb2)
      go_roundg (l.length - (j + 1))
      case measure => omega
      case rel =>
        have := HL.out
        exact ⟨j + 1, by omega, rfl, by rw [wrap_next (by omega)], by rw [HS.out], HB2⟩
    · obtain rfl : j = l.length := by omega
      have c1 : decide ((l.length : Int) < (l.length : Int)) = false := decide_eq_false (by omega)
      go_wp2
      go_ret
      exact ⟨rfl, HB.out⟩
set_option maxHeartbeats 1000000 in
theorem times1_c (B : Nat) (A1 : Option Addr) (c1 : Nat) (b : List Int) (i : Nat) (x : Int) (W : World) (hB : W.cell? ⟨B, 0, none⟩ = some (.slice A1 b.length c1)) (hr : Kd.C (Kd.int .i64) W A1 b.length b) (hi : i < b.length) :
    Calls Try.prog 165 #[.int .i64 (i : Int), .int .i64 x, .pointer (some ⟨B, 0, none⟩)] W fun e w' => e = .returned (.int .i64 (x * b.getD i 0 % 1073741789)) ∧ Drawn0 W w' := by
  obtain ⟨ad, e, hx⟩ := Kd.at_int hr (i : Int) (by omega) (by omega)
  cases e
  rw [Int.toNat_natCast] at hx
  have e : rd b (i : Int) = b.getD i 0 := by unfold rd; rw [Int.toNat_natCast]
  rw [e] at hx
  generalize b.getD i 0 = y at hx
  have c2 : decide (i < b.length) = true := decide_eq_true hi
  have c3 : (i : Int) < (b.length : Int) := by omega
  have c4 : (0 : Int) ≤ (i : Int) := by omega
  clear e hr
  go_enter Try.func165, Try.ntmps165
  go_wp2_with (go_at_call 65; refine (mul_c _ _ _).mono ?_; rintro e w' ⟨rfl, ⟨nd, rfl⟩⟩)
  go_ret
  exact ⟨rfl, by repeat (first | exact Drawn0.refl _ | apply Drawn0.step)⟩
theorem sumQ_congr {f g : Nat → Int} : ∀ {k : Nat}, (∀ i, i < k → f i = g i) → sumQ f k = sumQ g k
  | 0, _ => rfl
  | k + 1, h => by unfold sumQ; rw [sumQ_congr (fun i hi => h i (by omega)), h k (by omega)]
theorem dot_take : ∀ (a b : List Int) (k : Nat), k < a.length → k < b.length → Sig.dot (a.take (k + 1)) b = Sig.dot (a.take k) b + a.getD k 0 * b.getD k 0
  | [], _, _, h, _ => by simp at h
  | _ :: _, [], _, _, h => by simp at h
  | x :: a, y :: b, 0, _, _ => by simp [Sig.dot]
  | x :: a, y :: b, k + 1, h1, h2 => by
    have := dot_take a b k (by simpa using h1) (by simpa using h2)
    rw [List.take_succ_cons, List.take_succ_cons, Sig.dot, Sig.dot, this]
    simp
    omega
theorem sumQ_dot (a b : List Int) (h : a.length ≤ b.length) : ∀ k, k ≤ a.length → sumQ (fun i => a.getD i 0 * b.getD i 0 % 1073741789) k = Sig.dot (a.take k) b % 1073741789
  | 0, _ => by rw [List.take_zero]; rfl
  | k + 1, hk => by
    unfold sumQ
    rw [sumQ_dot a b h k (by omega), dot_take a b k (by omega) (by omega)]
    omega
theorem times_c (A0 : Option Addr) (c0 : Nat) (a : List Int) (A1 : Option Addr) (c1 : Nat) (b : List Int) (w : World) (hr0 : Kd.C (Kd.int .i64) w A0 a.length a) (hr1 : Kd.C (Kd.int .i64) w A1 b.length b) (hl : a.length ≤ b.length) :
    Calls Try.prog 86 #[.slice A0 a.length c0, .slice A1 b.length c1] w fun e w' => e = .returned (.int .i64 (Sig.dot a b % 1073741789)) ∧ Below w.heap.size w w' := by
  have hs := sumQ_dot a b hl a.length (Nat.le_refl _)
  rw [List.take_length] at hs
  rw [← hs]
  have hb : Below w.heap.size w (w.alloc (.cells #[.slice A1 b.length c1] 23)) := (Below.refl _ _).alloc (Nat.le_refl _) _
  have hbx := Bx.new w (.slice A1 b.length c1) 23
  have HC := Aside0.mk (sumInt_c (g := 165) (fun args w => enters_ Try.func165 (by kernel_rfl) rfl args w) ⟨w.heap.size, 0, none⟩ (fun i => a.getD i 0 * b.getD i 0 % 1073741789) A0 c0 a (w.alloc (.cells #[.slice A1 b.length c1] 23)) (Kd.C_below hr0 hb) (fun i W hi hW => by
    have hrd : rd a (i : Int) = a.getD i 0 := by unfold rd; rw [Int.toNat_natCast]
    rw [hrd]
    exact times1_c w.heap.size A1 c1 b i (a.getD i 0) W (hbx.below hW).1 (Kd.C_below (Kd.C_below hr1 hb) hW) (by omega)))
  have HB := Aside0.mk hb
  clear hr0 hr1 hs hbx hb
  generalize sumQ (fun i => a.getD i 0 * b.getD i 0 % 1073741789) a.length = s at HC ⊢
  have hmf : ∀ (fn : Fn) (first cap : Array Value) (w : World), (Instr.makeFunc fn first cap).run Try.prog w = .ok (.func fn first cap) w := fun _ _ _ _ => rfl
  go_enter Try.func86, Try.ntmps86
  go_wp2_with (go_at_call 164; refine HC.out.mono ?_; rintro e w' ⟨rfl, hb2⟩; have HB2 := Aside0.mk (below_then HB.out (by simp) hb2); clear hb2)
  go_ret
  exact ⟨rfl, HB2.out⟩
def dealing_times.f (l0 l1 : List Int) : Option Int := if l0.length ≤ l1.length then some (Sig.dot l0 l1 % 1073741789) else none
theorem dealing_times.calls (A0 : Option Addr) (c0 : Nat) (l0 : List Int) (A1 : Option Addr) (c1 : Nat) (l1 : List Int) (r : Int) (w : World) (hr0 : Kd.C (Kd.int .i64) w A0 l0.length l0) (hc0 : l0.length ≤ c0) (hr1 : Kd.C (Kd.int .i64) w A1 l1.length l1) (hc1 : l1.length ≤ c1) (h : dealing_times.f l0 l1 = some r) :
    Calls Try.prog 86 #[.slice A0 l0.length c0, .slice A1 l1.length c1] w fun e w' => e = .returned (.int .i64 r) ∧ Below w.heap.size w w' := by
  unfold dealing_times.f at h
  split at h
  · cases h; exact times_c A0 c0 l0 A1 c1 l1 w hr0 hr1 (by assumption)
  · cases h
end Go.Proofs.Ytdbamhckgaoibaa.P
namespace Go.Proofs.Ytdbamhckgaoibaa.P
open Go.RowKit Go.Proofs.YtdbamhckgaoibaaW.PrintWords Go.Proofs.YtdbamhckgaoibaaW.PrintLast Go.Proofs.YtdbamhckgaoibaaW.PrintMore
attribute [local go_sem] Oper.semAt_some
set_option linter.unusedVariables false
set_option linter.unusedSimpArgs false
theorem wrap_nextB {j : Nat} (h : j < 9223372036854775807) : wrap64 ((j : Int) + 1) = ((j + 1 : Nat) : Int) := by unfold wrap64; omega
set_option maxRecDepth 100000 in
set_option maxHeartbeats 4000000 in
theorem rows1_it (w : World) (bs bp : Nat) (As : Option Addr) (cs : Nat) (ls : List S38) (Ap : Option Addr) (adr : Addr) (cp : Nat) (rows : List (List Int))
    (h1 : w.cell? ⟨bs, 0, none⟩ = some (.slice As ls.length cs)) (h2 : w.cell? ⟨bp, 0, none⟩ = some (.slice Ap rows.length cp)) (hadr : 0 < ls.length → Ap = some adr)
    (hs : Kd.C k38 w As ls.length ls) (hr : Kd.C (Kd.slice 3 (Kd.int .i64)) w Ap rows.length rows) (hin : ∀ s ∈ ls, 0 ≤ s.f0 ∧ s.f0 < rows.length) :
    IterC 171 #[.pointer (some ⟨bs, 0, none⟩), .pointer (some ⟨bp, 0, none⟩)] w (ls.map fun s => (w.cell? (adr.add s.f0.toNat)).getD undef) := by
  intro l W1 J hJB hJS hY hj0
  have hlen : ls.length ≤ 9223372036854775807 := hs.2.1
  have hb1 := World.block_lt_of_cell? w _ h1
  have hb2 := World.block_lt_of_cell? w _ h2
  have HS := Aside0.mk hs
  have HR := Aside0.mk hr
  have HIN := Aside0.mk hin
  have HJS := Aside0.mk hJS
  have HJB := Aside0.mk hJB
  have HH1 := Aside0.mk h1
  have HH2 := Aside0.mk h2
  have e1 := ((hJB 0 W1 hj0).cell (p := ⟨bs, 0, none⟩) hb1).trans h1
  rw [show (ls.map fun s => (w.cell? (adr.add s.f0.toNat)).getD undef).length = ls.length from List.length_map _]
  clear hs hr hin hJS h1 h2 hJB
  refine callsIn_of_wp Try.func171 rfl trivial ?_ rfl
  simp only [Try.ntmps171, List.size_toArray, List.length_cons, List.length_nil, Nat.reduceAdd, Nat.reduceSub, Array.replicate_succ, Array.replicate_zero, List.push_toArray, List.append_toArray, List.nil_append, List.cons_append]
  gi_wp2
  clear e1
  gi_loopg [8] ls.length (fun gk v8 wr => ∃ k : Nat, k ≤ ls.length ∧ gk = ls.length - k ∧ v8 = .int .i64 (k : Int) ∧ J k wr)
  case atStart => exact ⟨0, Nat.zero_le _, rfl, rfl, hj0⟩
  case round =>
    clear hj0
    obtain ⟨k, hk, rfl, rfl, hj⟩ := hrel
    have hB := HJB.out k wr hj
    by_cases hlt : k < ls.length
    · have c1 : decide ((k : Int) < (ls.length : Int)) = true := decide_eq_true (by omega)
      have c2 : decide (k < ls.length) = true := decide_eq_true hlt
      have c3 : (0 : Int) ≤ (k : Int) := by omega
      obtain ⟨ads, ea, x1, x2⟩ := at_T38 HS.out (k : Int) (by omega) (by omega)
      cases ea
      rw [Int.toNat_natCast] at x1 x2
      have hrd : rd_T38 ls (k : Int) = ls[k] := by unfold rd_T38; rw [Int.toNat_natCast, List.getD_eq_getElem?_getD, List.getElem?_eq_getElem hlt]; rfl
      rw [hrd] at x1 x2
      have hAp := hadr (by omega)
      subst hAp
      obtain ⟨g1, g2⟩ := HIN.out _ (List.getElem_mem hlt)
      obtain ⟨adr', Ar, cr, er, y1, y2, y3⟩ := at_L1 HR.out ls[k].f0 g1 g2
      obtain rfl : adr = adr' := by injection er
      have hv : (ls.map fun s => (w.cell? (adr.add s.f0.toNat)).getD undef)[k]? = some (.slice Ar (rd_L1 rows ls[k].f0).length cr) := by
        rw [List.getElem?_map, List.getElem?_eq_getElem hlt]; simp [y1]
      have hyk := hY k
      generalize (ls.map fun s => (w.cell? (adr.add s.f0.toNat)).getD undef)[k]? = ov at hv hyk
      have HYK := Aside0.mk (fun W h => hyk W _ hv h)
      generalize (rd_L1 rows ls[k].f0).length = rn at y1 HYK
      have z1 := (hB.cell (World.block_lt_of_cell? w _ x1)).trans x1
      have z2 := (hB.cell (World.block_lt_of_cell? w _ x2)).trans x2
      have z3 := (hB.cell (World.block_lt_of_cell? w _ y1)).trans y1
      have z4 := (hB.cell (World.block_lt_of_cell? w _ HH2.out)).trans HH2.out
      have w1 := Nat.lt_of_lt_of_le (World.block_lt_of_cell? w _ y1) hB.size
      have w2 := Nat.lt_of_lt_of_le hb2 hB.size
      obtain ⟨f0, hf0⟩ : ∃ f0, f0 = ls[k].f0.toNat := ⟨_, rfl⟩
      have hf1 : ls[k].f0 = (f0 : Int) := by omega
      rw [← hf0] at z3 w1
      rw [hf1] at z1
      have g3 : (f0 : Int) < (rows.length : Int) := by omega
      have g4 : (0 : Int) ≤ (f0 : Int) := by omega
      have g5 : decide (f0 < rows.length) = true := decide_eq_true (by omega)
      have HJ := Aside0.mk hj
      have HB := Aside0.mk hB
      clear hv hyk y1 y2 y3 x1 x2 hj hB hY hf0 hf1 g1 g2 hrd
      generalize ls[k].f1 = f1 at z2
      obtain ⟨fn, tmps, assign, body, hy, hR⟩ := HYK.out _ (HJS.out k wr (wr.alloc (.cells #[.int .i64 (f0 : Int), .int .i64 f1] 38)) HJ.out ((Below.refl _ wr).alloc (Nat.le_refl _) _))
      gi_wp2
      refine hR.mono ?_
      rintro e W' ⟨rfl, hj2⟩
      have HJ2 := Aside0.mk hj2
      clear hj2 z1 z2 z3 z4 w1 w2
      gi_wp2
      gi_roundg (ls.length - (k + 1))
      case measure => omega
      case rel => exact ⟨k + 1, by omega, rfl, by first | rfl | rw [wrap_nextB (by omega)], HJ2.out⟩
    · obtain rfl : k = ls.length := by omega
      have c1 : decide ((ls.length : Int) < (ls.length : Int)) = false := decide_eq_false (by omega)
      have HJ := Aside0.mk hj
      clear hj hY hB
      gi_wp2
      go_end0
      exact ⟨⟨_, rfl⟩, HJ.out⟩
set_option maxHeartbeats 1000000 in
theorem sumShare_c {g : Nat} (eg : ∀ args w, (callFunc g args).run Try.prog w = .ok (.enter g args) w) (p : Addr) (f : Nat → Int) (A0 : Option Addr) (c0 : Nat) (l : List S38) (w : World) (hr : Kd.C k38 w A0 l.length l)
    (hg : ∀ (i : Nat) (W : World), i < l.length → Below w.heap.size w W → Calls Try.prog g #[.int .i64 (i : Int), .agg #[.int .i64 (rd_T38 l (i : Int)).f0, .int .i64 (rd_T38 l (i : Int)).f1], .pointer (some p)] W fun e w' => e = .returned (.int .i64 (f i)) ∧ Below W.heap.size W w') :
    Calls Try.prog 95 #[.slice A0 l.length c0, .func (.func g) #[] #[.pointer (some p)]] w fun e w' => e = .returned (.int .i64 (sumQ f l.length)) ∧ Below w.heap.size w w' := by
  have HG := Aside0.mk hg
  have HR := Aside0.mk hr
  have hlen : l.length ≤ 9223372036854775807 := hr.2.1
  clear hr hg
  go_enter Try.func95, Try.ntmps95
  go_wp2
  go_loopg [4, 9] l.length (fun gk v4 v9 w' => ∃ j : Nat, j ≤ l.length ∧ gk = l.length - j ∧ v9 = .int .i64 (j : Int) ∧ v4 = .int .i64 (sumQ f j) ∧ Aside0 (Below w.heap.size w w'))
  case atStart => exact ⟨0, Nat.zero_le _, rfl, rfl, rfl, ⟨by first | exact Below.refl _ _ | exact pw_below_drewN (Below.refl _ _) _⟩⟩
  case round =>
    obtain ⟨j, hj, rfl, rfl, rfl, HB⟩ := hrel
    by_cases hlt : j < l.length
    · have c1 : decide ((j : Int) < (l.length : Int)) = true := decide_eq_true (by omega)
      have c2 : decide (j < l.length) = true := decide_eq_true hlt
      have c4 : (0 : Int) ≤ (j : Int) := by omega
      obtain ⟨ad, e, x1, x2⟩ := at_T38 HR.out (j : Int) (by omega) (by omega)
      cases e
      rw [Int.toNat_natCast] at x1 x2
      replace x1 := (HB.out.cell (World.block_lt_of_cell? w _ x1)).trans x1
      replace x2 := (HB.out.cell (World.block_lt_of_cell? w _ x2)).trans x2
      obtain ⟨f0, hf0⟩ : ∃ f0, f0 = (rd_T38 l (j : Int)).f0 := ⟨_, rfl⟩
      obtain ⟨f1, hf1⟩ : ∃ f1, f1 = (rd_T38 l (j : Int)).f1 := ⟨_, rfl⟩
      have hcall := HG.out j (wr.alloc (.cells #[.int .i64 f0, .int .i64 f1] 38)) hlt (HB.out.alloc HB.out.size _)
      rw [← hf0] at x1 hcall
      rw [← hf1] at x2 hcall
      have hS : sumQ f (j + 1) = (sumQ f j + f j) % 1073741789 := rfl
      generalize f j = fj at hcall hS
      have HS := Aside0.mk hS
      have HC := Aside0.mk hcall
      have HL := Aside0.mk hlen
      clear hS hcall HG hlen hf0 hf1
      go_wp2_with fail
      refine HC.out.mono ?_
      rintro e w1 ⟨rfl, hb1⟩
      have HB1 := Aside0.mk (below_then (HB.out.alloc HB.out.size (.cells #[.int .i64 f0, .int .i64 f1] 38)) (by have := HB.out.size; simp; omega) hb1)
      clear hb1
      go_wp2_with (go_at_call 36; refine (field_Add_m.calls _ _ _ _ rfl).mono ?_; rintro e w2 ⟨rfl, hb2⟩; have HB2 := Aside0.mk (below_then HB1.out (by exact HB1.out.size) hb2); clear hb2)
      go_roundg (l.length - (j + 1))
      case measure => omega
      case rel =>
        have := HL.out
        exact ⟨j + 1, by omega, rfl, by first | rfl | rw [wrap_nextB (by omega)], by rw [HS.out], HB2⟩
    · obtain rfl : j = l.length := by omega
      have c1 : decide ((l.length : Int) < (l.length : Int)) = false := decide_eq_false (by omega)
      go_wp2
      go_ret
      exact ⟨rfl, HB.out⟩
set_option maxRecDepth 100000 in
set_option maxHeartbeats 1000000 in
theorem recover1_c (B : Nat) (A1 : Option Addr) (c1 : Nat) (y : List Int) (i : Nat) (f0 f1 : Int) (W : World) (hB : W.cell? ⟨B, 0, none⟩ = some (.slice A1 y.length c1)) (hr : Kd.C (Kd.int .i64) W A1 y.length y) (hi : i < y.length) :
    Calls Try.prog 96 #[.int .i64 (i : Int), .agg #[.int .i64 f0, .int .i64 f1], .pointer (some ⟨B, 0, none⟩)] W fun e w' => e = .returned (.int .i64 (y.getD i 0 * f1 % 1073741789)) ∧ Below W.heap.size W w' := by
  obtain ⟨ad, e, hx⟩ := Kd.at_int hr (i : Int) (by omega) (by omega)
  cases e
  rw [Int.toNat_natCast] at hx
  have e : rd y (i : Int) = y.getD i 0 := by unfold rd; rw [Int.toNat_natCast]
  rw [e] at hx
  generalize y.getD i 0 = x at hx
  have c2 : decide (i < y.length) = true := decide_eq_true hi
  have c3 : (i : Int) < (y.length : Int) := by omega
  have c4 : (0 : Int) ≤ (i : Int) := by omega
  have hb1 := World.block_lt_of_cell? W _ hB
  have hb2 := World.block_lt_of_cell? W _ hx
  clear e hr
  go_enter Try.func96, Try.ntmps96
  go_wp2
  obtain ⟨W1, hW1⟩ : ∃ W1, W.alloc (.cells #[.int .i64 f0, .int .i64 f1] 38) = W1 := ⟨_, rfl⟩
  rw [hW1]
  have hW : Below W.heap.size W W1 := by rw [← hW1]; exact (Below.refl _ _).alloc (Nat.le_refl _) _
  have h1 : W1.cell? ⟨B, 0, none⟩ = some (.slice (some ad) y.length c1) := (hW.cell (p := ⟨B, 0, none⟩) hb1).trans hB
  have h2 : W1.cell? (ad.add i) = some (.int .i64 x) := (hW.cell hb2).trans hx
  have h3 : W1.cell? ⟨W.heap.size, 1, none⟩ = some (.int .i64 f1) := by
    rw [← hW1]
    simp only [World.cell?]
    rw [World.alloc_heap_new]
    rfl
  have HW := Aside0.mk hW
  clear hB hx hb1 hb2 hW1 hW
  refine start_ (n := 8) (S := fun w' => w'.cell? ⟨B, 0, none⟩ = some (.slice (some ad) y.length c1) ∧ w'.cell? (ad.add i) = some (.int .i64 x) ∧ w'.cell? ⟨W.heap.size, 1, none⟩ = some (.int .i64 f1)) (ds := []) #[false, false, false, false, false, false, false, false] (by kernel_rfl) rfl rfl ⟨h1, h2, h3⟩ (fun hHeld => ?_)
  have hW3 : Below W.heap.size W W1.drew := HW.out.drew
  generalize W1.drew = W3 at hHeld hW3 ⊢
  have HW3 := Aside0.mk hW3
  clear h1 h2 h3 hW3
  refine take_ (i := 0) (N := some 6) (v := ?_) (a' := ?_) #[true, false, false, false, false, false, false, false] rfl rfl (by kernel_rfl) (fun _ _ _ h => h) (Or.inl ⟨by rfl, ?_⟩) hHeld ?_ ?_
  rotate_left
  · rintro w' ⟨s0, s1, s2⟩
    go_simp
    with_reducible rfl
  rotate_left
  · simp only [Act.put, List.setIfInBounds_toArray, List.set_cons_zero, List.set_cons_succ, i64_w, i32_w]
    rfl
  refine pure_ (i := 1) (N := some 7) (v := ?_) (a' := ?_) #[true, true, false, false, false, false, false, false] rfl rfl (by kernel_rfl) (fun _ _ _ h => h) (Or.inl ⟨by rfl, ?_⟩) ?_ ?_
  rotate_left
  · intro w'
    go_simp
    with_reducible rfl
  rotate_left
  · simp only [Act.put, List.setIfInBounds_toArray, List.set_cons_zero, List.set_cons_succ, i64_w, i32_w]
    rfl
  refine pure_ (i := 2) (N := some 8) (v := ?_) (a' := ?_) #[true, true, true, false, false, false, false, false] rfl rfl (by kernel_rfl) (fun _ _ _ h => h) (Or.inl ⟨by rfl, ?_⟩) ?_ ?_
  rotate_left
  · intro w'
    go_simp
    with_reducible rfl
  rotate_left
  · simp only [Act.put, List.setIfInBounds_toArray, List.set_cons_zero, List.set_cons_succ, i64_w, i32_w]
    rfl
  refine take_ (i := 3) (N := some 9) (v := ?_) (a' := ?_) #[true, true, true, true, false, false, false, false] rfl rfl (by kernel_rfl) (fun _ _ _ h => h) (Or.inl ⟨by rfl, ?_⟩) hHeld ?_ ?_
  rotate_left
  · rintro w' ⟨s0, s1, s2⟩
    go_simp
    with_reducible rfl
  rotate_left
  · simp only [Act.put, List.setIfInBounds_toArray, List.set_cons_zero, List.set_cons_succ, i64_w, i32_w]
    rfl
  refine pure_ (i := 4) (N := some 10) (v := ?_) (a' := ?_) #[true, true, true, true, true, false, false, false] rfl rfl (by kernel_rfl) (fun _ _ _ h => h) (Or.inl ⟨by rfl, ?_⟩) ?_ ?_
  rotate_left
  · intro w'
    go_simp
    with_reducible rfl
  rotate_left
  · simp only [Act.put, List.setIfInBounds_toArray, List.set_cons_zero, List.set_cons_succ, i64_w, i32_w]
    rfl
  refine take_ (i := 5) (N := some 11) (v := ?_) (a' := ?_) #[true, true, true, true, true, true, false, false] rfl rfl (by kernel_rfl) (fun _ _ _ h => h) (Or.inl ⟨by rfl, ?_⟩) hHeld ?_ ?_
  rotate_left
  · rintro w' ⟨s0, s1, s2⟩
    go_simp
    with_reducible rfl
  rotate_left
  · simp only [Act.put, List.setIfInBounds_toArray, List.set_cons_zero, List.set_cons_succ, i64_w, i32_w]
    rfl
  refine one_ (i := 6) (N := some 12) #[true, true, true, true, true, true, true, false] rfl rfl (by kernel_rfl) (by decide) (fun K hK => ?_)
  refine goes_ Try.func65 (by kernel_rfl) rfl #[.int .i64 x, .int .i64 f1] (by rfl) rfl rfl (by (try simp only [List.map_toArray, List.map_cons, List.map_nil]); first | done | rfl) ?_
  refine (mul_c _ _ _).mono ?_
  rintro e w' ⟨rfl, ⟨nd, rfl⟩⟩
  refine ⟨_, rfl, hK.out _ _ ⟨pw_cell_below (pw_below_drewN (Below.refl _ _) _) hHeld.1, pw_cell_below (pw_below_drewN (Below.refl _ _) _) hHeld.2.1, pw_cell_below (pw_below_drewN (Below.refl _ _) _) hHeld.2.2⟩ (fun hHeld => ?_)⟩
  clear hK K
  refine pure_ (i := 7) (N := some 5) (v := ?_) (a' := ?_) #[true, true, true, true, true, true, true, true] rfl rfl (by kernel_rfl) (fun _ _ _ h => h) (Or.inl ⟨by rfl, ?_⟩) ?_ ?_
  rotate_left
  · intro w'
    go_simp
    with_reducible rfl
  rotate_left
  · simp only [Act.put, List.setIfInBounds_toArray, List.set_cons_zero, List.set_cons_succ, i64_w, i32_w]
    rfl
  refine done_ (by kernel_rfl) ?_
  go_wp2
  go_ret
  refine ⟨?_, ?_⟩
  · first | rfl | simp
  · exact pw_below_drewN HW3.out _
end Go.Proofs.Ytdbamhckgaoibaa.P
namespace Go.Proofs.Ytdbamhckgaoibaa.P
open Go.RowKit Go.Proofs.YtdbamhckgaoibaaW.PrintWords Go.Proofs.YtdbamhckgaoibaaW.PrintLast Go.Proofs.YtdbamhckgaoibaaW.PrintMore
attribute [local go_sem] Oper.semAt_some
set_option linter.unusedVariables false
set_option linter.unusedSimpArgs false
def RedPost (w : World) (base g : Nat) (bs : List Nat) (t : List (List Int)) (many : Nat) (e : Ending) (w' : World) : Prop := ∃ v bs', e = .returned v ∧ bs'.length = bs.length ∧ Tab w' base g bs' (Sig.reduce t many).1 ∧
      w'.ownsRow w.heap.size 3 1 v (Sig.reduce t many).2.length (nums .i64 ((Sig.reduce t many).2.map fun (p : Nat) => (p : Int))) ∧ Chg (fun k => k = g ∨ ∃ j, j < t.length ∧ k = bs.getD j 0) w w'
theorem step_none {t : List (List Int)} {ps : List Nat} {c : Nat} (h : Sig.find t c ps.length = t.length) : Sig.step (t, ps) c = (t, ps) := by
  unfold Sig.step; rw [if_neg (by simp only; omega)]
theorem step_some {t : List (List Int)} {ps : List Nat} {c k : Nat} (h : Sig.find t c ps.length = k) (hk : k < t.length) : Sig.step (t, ps) c = (Sig.pivot t ps.length k c, ps ++ [c]) := by
  unfold Sig.step; rw [if_pos (by simp only; omega)]; simp only [h]
set_option maxRecDepth 100000 in
set_option maxHeartbeats 8000000 in
theorem reduce_c (w : World) (base g cap : Nat) (bs : List Nat) (t : List (List Int)) (many n : Nat) (hT : Tab w base g bs t) (hlb : bs.length = t.length) (hR : Sig.Rect t n) (hm : many ≤ n) (hn : n ≤ 1000000000000) (hl : t.length ≤ 1000000000000) (hcap : t.length ≤ cap) (hb : base ≤ w.heap.size) (hgl : g < w.heap.size) (hbl : ∀ j, j < t.length → bs.getD j 0 < w.heap.size) :
    Calls Try.prog 120 #[.slice (some ⟨g, 0, none⟩) t.length cap, .int .i64 (many : Int)] w (RedPost w base g bs t many) := by
  refine (callsIn_wide (n := 9)).1 ?_
  refine callsIn_of_wp_marks Try.func120 rfl trivial ?_ rfl
  simp only [Try.ntmps120, List.size_toArray, List.length_cons, List.length_nil, Nat.reduceAdd, Nat.reduceSub, Array.replicate_succ, Array.replicate_zero, List.push_toArray, List.append_toArray, List.nil_append, List.cons_append]
  obtain ⟨S, hS⟩ : ∃ S : Nat → Prop, S = (fun k => k = g ∨ ∃ j, j < t.length ∧ k = bs.getD j 0) := ⟨_, rfl⟩
  have h0 : RD w base g S t.length (.slice (some ⟨g, 0, none⟩) t.length cap) bs t [] (w.alloc (.cells #[.slice (some ⟨g, 0, none⟩) t.length cap] 134)) :=
    ⟨hT.below ((Below.refl _ w).alloc (Nat.le_refl _) _), Bx.new w _ _, (Chg.refl S w).then_alloc _, Marks.nil _ _, hlb, rfl, fun i hi => by rw [hS]; exact .inr ⟨i, hi, rfl⟩, by rw [hS]; exact .inl rfl, fun k hk => by
      rw [hS] at hk
      rcases hk with rfl | ⟨j, hj, rfl⟩
      · exact hgl
      · exact hbl j hj⟩
  have H0 := Aside0.mk h0
  have HR := Aside0.mk hR
  have HS := Aside0.mk hS
  clear hS h0 hT hR hbl
  gi_wp2
  refine wpIn_loop_ghost_k (fun gk a' w' => ∃ (ds : List Deferred) (u4 u5 u6 u7 u8 u9 u10 u11 u12 u14 u15 u16 u17 u18 u19 u20 u21 u22 u23 u24 u25 u26 u27 u28 u29 u30 u31 u32 u33 u34 u35 u36 u37 u38 u39 u40 u41 u42 u43 u44 u45 u46 u47 u48 u49 u50 u51 u52 u53 u54 u55 u56 u57 u58 u59 u60 u61 u62 u63 u64 u65 u66 u67 u68 u69 u70 u71 u72 u73 u74 u75 u76 u77 u78 u79 u80 u81 u82 u83 u84 u85 u86 u87 u88 u89 u90 u91 u92 u93 u94 u95 u96 u97 u98 u99 u100 : Value), (∃ c bs', c ≤ many ∧ gk = many - c ∧ u14 = .int .i64 (c : Int) ∧ RD w base g S t.length (.slice (some ⟨g, 0, none⟩) t.length cap) bs' (Sig.reduce t c).1 ds w' ∧ w'.ownsRow (w.heap.size + 1) 3 1 u4 (Sig.reduce t c).2.length (nums .i64 ((Sig.reduce t c).2.map fun (p : Nat) => (p : Int)))) ∧ a' = { tmps := #[.slice (some ⟨g, 0, none⟩) t.length cap, .int .i64 (many : Int), .pointer (some ⟨w.heap.size, 0, none⟩), undef, u4, u5, u6, u7, u8, u9, u10, u11, u12, .int .i64 (many : Int), u14, u15, u16, u17, u18, u19, u20, u21, u22, u23, u24, u25, u26, u27, u28, u29, u30, u31, u32, u33, u34, u35, u36, u37, u38, u39, u40, u41, u42, u43, u44, u45, u46, u47, u48, u49, u50, u51, u52, u53, u54, u55, u56, u57, u58, u59, u60, u61, u62, u63, u64, u65, u66, u67, u68, u69, u70, u71, u72, u73, u74, u75, u76, u77, u78, u79, u80, u81, u82, u83, u84, u85, u86, u87, u88, u89, u90, u91, u92, u93, u94, u95, u96, u97, u98, u99, u100, undef], defers := ds }) many ?_ ?_
  · refine ⟨_, _, _, _, _, _, _, _, _, _, _, _, _, _, _, _, _, _, _, _, _, _, _, _, _, _, _, _, _, _, _, _, _, _, _, _, _, _, _, _, _, _, _, _, _, _, _, _, _, _, _, _, _, _, _, _, _, _, _, _, _, _, _, _, _, _, _, _, _, _, _, _, _, _, _, _, _, _, _, _, _, _, _, _, _, _, _, _, _, _, _, _, _, _, _, _, _, ⟨0, bs, Nat.zero_le _, rfl, rfl, H0.out, ?_⟩, rfl⟩
    exact World.ownsRow_nil _ _ _ _
  · intro gk _ wo hinv
    obtain ⟨ds, hinv⟩ := hinv
    obtain ⟨u4, hinv⟩ := hinv
    obtain ⟨u5, hinv⟩ := hinv
    obtain ⟨u6, hinv⟩ := hinv
    obtain ⟨u7, hinv⟩ := hinv
    obtain ⟨u8, hinv⟩ := hinv
    obtain ⟨u9, hinv⟩ := hinv
    obtain ⟨u10, hinv⟩ := hinv
    obtain ⟨u11, hinv⟩ := hinv
    obtain ⟨u12, hinv⟩ := hinv
    obtain ⟨u14, hinv⟩ := hinv
    obtain ⟨u15, hinv⟩ := hinv
    obtain ⟨u16, hinv⟩ := hinv
    obtain ⟨u17, hinv⟩ := hinv
    obtain ⟨u18, hinv⟩ := hinv
    obtain ⟨u19, hinv⟩ := hinv
    obtain ⟨u20, hinv⟩ := hinv
    obtain ⟨u21, hinv⟩ := hinv
    obtain ⟨u22, hinv⟩ := hinv
    obtain ⟨u23, hinv⟩ := hinv
    obtain ⟨u24, hinv⟩ := hinv
    obtain ⟨u25, hinv⟩ := hinv
    obtain ⟨u26, hinv⟩ := hinv
    obtain ⟨u27, hinv⟩ := hinv
    obtain ⟨u28, hinv⟩ := hinv
    obtain ⟨u29, hinv⟩ := hinv
    obtain ⟨u30, hinv⟩ := hinv
    obtain ⟨u31, hinv⟩ := hinv
    obtain ⟨u32, hinv⟩ := hinv
    obtain ⟨u33, hinv⟩ := hinv
    obtain ⟨u34, hinv⟩ := hinv
    obtain ⟨u35, hinv⟩ := hinv
    obtain ⟨u36, hinv⟩ := hinv
    obtain ⟨u37, hinv⟩ := hinv
    obtain ⟨u38, hinv⟩ := hinv
    obtain ⟨u39, hinv⟩ := hinv
    obtain ⟨u40, hinv⟩ := hinv
    obtain ⟨u41, hinv⟩ := hinv
    obtain ⟨u42, hinv⟩ := hinv
    obtain ⟨u43, hinv⟩ := hinv
    obtain ⟨u44, hinv⟩ := hinv
    obtain ⟨u45, hinv⟩ := hinv
    obtain ⟨u46, hinv⟩ := hinv
    obtain ⟨u47, hinv⟩ := hinv
    obtain ⟨u48, hinv⟩ := hinv
    obtain ⟨u49, hinv⟩ := hinv
    obtain ⟨u50, hinv⟩ := hinv
    obtain ⟨u51, hinv⟩ := hinv
    obtain ⟨u52, hinv⟩ := hinv
    obtain ⟨u53, hinv⟩ := hinv
    obtain ⟨u54, hinv⟩ := hinv
    obtain ⟨u55, hinv⟩ := hinv
    obtain ⟨u56, hinv⟩ := hinv
    obtain ⟨u57, hinv⟩ := hinv
    obtain ⟨u58, hinv⟩ := hinv
    obtain ⟨u59, hinv⟩ := hinv
    obtain ⟨u60, hinv⟩ := hinv
    obtain ⟨u61, hinv⟩ := hinv
    obtain ⟨u62, hinv⟩ := hinv
    obtain ⟨u63, hinv⟩ := hinv
    obtain ⟨u64, hinv⟩ := hinv
    obtain ⟨u65, hinv⟩ := hinv
    obtain ⟨u66, hinv⟩ := hinv
    obtain ⟨u67, hinv⟩ := hinv
    obtain ⟨u68, hinv⟩ := hinv
    obtain ⟨u69, hinv⟩ := hinv
    obtain ⟨u70, hinv⟩ := hinv
    obtain ⟨u71, hinv⟩ := hinv
    obtain ⟨u72, hinv⟩ := hinv
    obtain ⟨u73, hinv⟩ := hinv
    obtain ⟨u74, hinv⟩ := hinv
    obtain ⟨u75, hinv⟩ := hinv
    obtain ⟨u76, hinv⟩ := hinv
    obtain ⟨u77, hinv⟩ := hinv
    obtain ⟨u78, hinv⟩ := hinv
    obtain ⟨u79, hinv⟩ := hinv
    obtain ⟨u80, hinv⟩ := hinv
    obtain ⟨u81, hinv⟩ := hinv
    obtain ⟨u82, hinv⟩ := hinv
    obtain ⟨u83, hinv⟩ := hinv
    obtain ⟨u84, hinv⟩ := hinv
    obtain ⟨u85, hinv⟩ := hinv
    obtain ⟨u86, hinv⟩ := hinv
    obtain ⟨u87, hinv⟩ := hinv
    obtain ⟨u88, hinv⟩ := hinv
    obtain ⟨u89, hinv⟩ := hinv
    obtain ⟨u90, hinv⟩ := hinv
    obtain ⟨u91, hinv⟩ := hinv
    obtain ⟨u92, hinv⟩ := hinv
    obtain ⟨u93, hinv⟩ := hinv
    obtain ⟨u94, hinv⟩ := hinv
    obtain ⟨u95, hinv⟩ := hinv
    obtain ⟨u96, hinv⟩ := hinv
    obtain ⟨u97, hinv⟩ := hinv
    obtain ⟨u98, hinv⟩ := hinv
    obtain ⟨u99, hinv⟩ := hinv
    obtain ⟨u100, hinv⟩ := hinv
    obtain ⟨hrel, ha⟩ := hinv
    subst ha
    intro _ _ _ _
    obtain ⟨c, bs', hc, rfl, rfl, hD, hO⟩ := hrel
    clear H0
    have hst := Sig.reduce_succ t c
    obtain ⟨hI, htl⟩ := Sig.inv_reduce HR.out c (by omega)
    generalize hrc : Sig.reduce t c = tc at hst hI htl hD hO
    obtain ⟨t', ps⟩ := tc
    simp only at hst hI htl hD hO
    have HRC := Aside0.mk hrc
    clear hrc
    have HD := Aside0.mk hD
    have HO := Aside0.mk hO
    have HI := Aside0.mk hI
    have HST := Aside0.mk hst
    have HTL := Aside0.mk htl
    obtain ⟨pA, pc, rfl⟩ := own_len hO
    have hbox := hD.box
    have hB2 := hbox.lt
    have e2 := hbox.1
    have hps := hI.few
    rw [htl] at hps
    clear hD hO hI hst htl hbox
    by_cases hcm : c < many
    · have f1 : decide ((c : Int) < (many : Int)) = true := decide_eq_true (by omega)
      gi_wp2
      obtain ⟨W0, hW0⟩ : ∃ W0, wo.alloc (.cells #[.int .i64 (ps.length : Int)] 3) = W0 := ⟨_, rfl⟩
      rw [hW0]
      have hb0 : Below wo.heap.size wo W0 := by rw [← hW0]; exact (Below.refl _ _).alloc (Nat.le_refl _) _
      have hr0 : Bx W0 wo.heap.size (.int .i64 (ps.length : Int)) := by rw [← hW0]; exact Bx.new _ _ _
      have HD0 := Aside0.mk (HD.out.below hb0)
      have HO0 := Aside0.mk (own_below HO.out hb0)
      have e2' := HD0.out.box.1
      have e6 := hr0.1
      have HR0 := Aside0.mk hr0
      clear HD HO e2 hW0 hb0 hr0
      gi_loopg [7] (t.length - ps.length) (fun gk v7 w7 => ∃ k : Nat, ps.length ≤ k ∧ k ≤ t.length ∧ gk = t.length - k ∧ v7 = .int .i64 (k : Int) ∧ Sig.find t' c k = Sig.find t' c ps.length ∧ w7 = W0)
      case atStart => exact ⟨ps.length, Nat.le_refl _, hps, rfl, rfl, rfl, rfl⟩
      case round =>
        obtain ⟨k, hk1, hk2, rfl, rfl, hf, hwe⟩ := hrel
        subst hwe
        have HF := Aside0.mk hf
        clear hf
        by_cases hk : k < t.length
        · have hk' : k < t'.length := by rw [HTL.out]; exact hk
          have hrl := (HI.out.rect _ (Sig.getD_mem hk')).1
          obtain ⟨⟨ck, m1, m2⟩, m3⟩ := HD0.out.tab.main k hk'
          obtain ⟨q1, q2⟩ := HD0.out.tab.rows k hk' c (by rw [hrl]; omega)
          have q0 : (t'.getD k []).getD c 0 = Sig.ent t' k c := rfl
          rw [q0] at q1
          rw [hrl] at m1 m2
          obtain ⟨bk, hbk⟩ : ∃ bk, bk = bs'.getD k 0 := ⟨_, rfl⟩
          rw [← hbk] at m2 q1 q2
          obtain ⟨x, hx⟩ : ∃ x, x = Sig.ent t' k c := ⟨_, rfl⟩
          rw [← hx] at q1
          have HX := Aside0.mk hx
          have HBK := Aside0.mk hbk
          have HRL := Aside0.mk hrl
          have f2 : decide ((k : Int) < (t.length : Int)) = true := decide_eq_true (by omega)
          have f3 : (0 : Int) ≤ (k : Int) := by omega
          have f4 : (k : Int) < (t.length : Int) := by omega
          have f5 : decide (k < t.length) = true := decide_eq_true hk
          have f6 : (0 : Int) ≤ (c : Int) := by omega
          have f7 : (c : Int) < (n : Int) := by omega
          have f8 : decide (c < n) = true := decide_eq_true (by omega)
          have f9 : ((k : Int) == (t.length : Int)) = false := beq_eq_false_iff_ne.2 (by omega)
          clear hx hbk hrl q0 m3 q2
          by_cases hz : x = 0
          · have hzb : (x == 0) = true := beq_iff_eq.2 hz
            have HZ := Aside0.mk hz
            clear hz
            gi_wp2
            gi_roundg (t.length - (k + 1))
            case measure => omega
            case rel => exact ⟨k + 1, by omega, by omega, rfl, by go_num, (Sig.find_step hk' (HX.out.symm.trans HZ.out)).symm.trans HF.out, rfl⟩
          · have hzb : (x == 0) = false := beq_eq_false_iff_ne.2 hz
            have HZ := Aside0.mk hz
            clear hz
            gi_wp2
            have hr' : ps.length < t'.length := by rw [HTL.out]; omega
            have hrT : ps.length < t.length := by omega
            have hkT := hk
            obtain ⟨⟨cr, l1, n1⟩, z3⟩ := HD0.out.tab.main ps.length hr'
            have z4 := (HD0.out.tab.main k hk').2
            have hrr := (HI.out.rect _ (Sig.getD_mem hr')).1
            rw [hrr] at l1 n1
            have g1 : (0 : Int) ≤ (ps.length : Int) := by omega
            have g2 : (ps.length : Int) < (t.length : Int) := by omega
            have g3 : decide (ps.length < t.length) = true := decide_eq_true hrT
            obtain ⟨br, hbr⟩ : ∃ br, br = bs'.getD ps.length 0 := ⟨_, rfl⟩
            rw [← hbr] at n1
            have HBR := Aside0.mk hbr
            have HRR := Aside0.mk hrr
            clear hbr hrr q1
            refine region_only (fun K' hK' => ?_)
            refine start_ (n := 16) (S := fun w' => w'.cell? ⟨w.heap.size, 0, none⟩ = some (.slice (some ⟨g, 0, none⟩) t.length cap) ∧ w'.cell? ⟨wo.heap.size, 0, none⟩ = some (.int .i64 (ps.length : Int)) ∧ w'.cell? ⟨g, k, none⟩ = some (.slice (some ⟨bk, 0, none⟩) n ck) ∧ w'.cell? ⟨g, ps.length, none⟩ = some (.slice (some ⟨br, 0, none⟩) n cr)) (ds := [13, 15]) #[false, false, false, false, false, false, false, false, false, false, false, false, false, false, false, false] (by kernel_rfl) rfl rfl ⟨e2', e6, m2, n1⟩ (fun hHeld => ?_)
            have hW3 : Below wr.heap.size wr wr.drew := (Below.refl _ _).drew
            generalize wr.drew = W3 at hHeld hW3 ⊢
            obtain ⟨W4, hW4⟩ : ∃ W4, W3.setCell ⟨g, ps.length, none⟩ (.slice (some ⟨bk, 0, none⟩) n ck) = W4 := ⟨_, rfl⟩
            obtain ⟨W5, hW5⟩ : ∃ W5, W4.setCell ⟨g, k, none⟩ (.slice (some ⟨br, 0, none⟩) n cr) = W5 := ⟨_, rfl⟩
            have y3 : W3.frozen? ⟨g, ps.length, none⟩ = false := (hW3.frozen (p := ⟨g, ps.length, none⟩) (World.block_lt_of_cell? wr _ n1)).trans z3
            have y4 : W4.frozen? ⟨g, k, none⟩ = false := by rw [← hW4, World.frozen?_setCell]; exact (hW3.frozen (p := ⟨g, k, none⟩) (World.block_lt_of_cell? wr _ m2)).trans z4
            obtain ⟨vk, y5⟩ : ∃ vk, W4.cell? ⟨g, k, none⟩ = some vk := by
              rw [← hW4]
              by_cases e : ps.length = k
              · subst e; exact ⟨_, World.cell?_setCell_same' _ _ _ (by rw [hHeld.2.2.1]; rfl)⟩
              · exact ⟨_, (World.cell?_setCell_other W3 ⟨g, ps.length, none⟩ ⟨g, k, none⟩ _ (by intro e3; injection e3 with _ e3; exact e e3)).trans hHeld.2.2.1⟩
            have y6 : W4.cell? ⟨w.heap.size, 0, none⟩ = some (.slice (some ⟨g, 0, none⟩) t.length cap) := by
              rw [← hW4]; exact (World.cell?_setCell_far W3 ⟨g, ps.length, none⟩ ⟨w.heap.size, 0, none⟩ _ (by simp only; omega)).trans hHeld.1
            have HW4 := Aside0.mk hW4
            have HW5 := Aside0.mk hW5
            have HN := Aside0.mk n1
            have HM := Aside0.mk m2
            have HWB := Aside0.mk hW3
            clear e2' e6 m2 n1 z3 z4 hW4 hW5 hW3
            refine take_ (i := 0) (N := some 40) (v := ?_) (a' := ?_) #[true, false, false, false, false, false, false, false, false, false, false, false, false, false, false, false] rfl rfl (by kernel_rfl) (fun _ _ _ h => h) (Or.inl ⟨by rfl, ?_⟩) hHeld ?_ ?_
            rotate_left
            · rintro w' ⟨s0, s1, s2, s3⟩
              go_simp
              with_reducible rfl
            rotate_left
            · simp only [Act.put, List.setIfInBounds_toArray, List.set_cons_zero, List.set_cons_succ, i64_w, i32_w]
              rfl
            refine take_ (i := 1) (N := some 41) (v := ?_) (a' := ?_) #[true, true, false, false, false, false, false, false, false, false, false, false, false, false, false, false] rfl rfl (by kernel_rfl) (fun _ _ _ h => h) (Or.inl ⟨by rfl, ?_⟩) hHeld ?_ ?_
            rotate_left
            · rintro w' ⟨s0, s1, s2, s3⟩
              go_simp
              with_reducible rfl
            rotate_left
            · simp only [Act.put, List.setIfInBounds_toArray, List.set_cons_zero, List.set_cons_succ, i64_w, i32_w]
              rfl
            refine take_ (i := 4) (N := some 44) (v := ?_) (a' := ?_) #[true, true, false, false, true, false, false, false, false, false, false, false, false, false, false, false] rfl rfl (by kernel_rfl) (fun _ _ _ h => h) (Or.inl ⟨by rfl, ?_⟩) hHeld ?_ ?_
            rotate_left
            · rintro w' ⟨s0, s1, s2, s3⟩
              go_simp
              with_reducible rfl
            rotate_left
            · simp only [Act.put, List.setIfInBounds_toArray, List.set_cons_zero, List.set_cons_succ, i64_w, i32_w]
              rfl
            refine pure_ (i := 5) (N := some 45) (v := ?_) (a' := ?_) #[true, true, false, false, true, true, false, false, false, false, false, false, false, false, false, false] rfl rfl (by kernel_rfl) (fun _ _ _ h => h) (Or.inl ⟨by rfl, ?_⟩) ?_ ?_
            rotate_left
            · intro w'
              go_simp
              with_reducible rfl
            rotate_left
            · simp only [Act.put, List.setIfInBounds_toArray, List.set_cons_zero, List.set_cons_succ, i64_w, i32_w]
              rfl
            refine pure_ (i := 6) (N := some 46) (v := ?_) (a' := ?_) #[true, true, false, false, true, true, true, false, false, false, false, false, false, false, false, false] rfl rfl (by kernel_rfl) (fun _ _ _ h => h) (Or.inl ⟨by rfl, ?_⟩) ?_ ?_
            rotate_left
            · intro w'
              go_simp
              with_reducible rfl
            rotate_left
            · simp only [Act.put, List.setIfInBounds_toArray, List.set_cons_zero, List.set_cons_succ, i64_w, i32_w]
              rfl
            refine take_ (i := 7) (N := some 47) (v := ?_) (a' := ?_) #[true, true, false, false, true, true, true, true, false, false, false, false, false, false, false, false] rfl rfl (by kernel_rfl) (fun _ _ _ h => h) (Or.inl ⟨by rfl, ?_⟩) hHeld ?_ ?_
            rotate_left
            · rintro w' ⟨s0, s1, s2, s3⟩
              go_simp
              with_reducible rfl
            rotate_left
            · simp only [Act.put, List.setIfInBounds_toArray, List.set_cons_zero, List.set_cons_succ, i64_w, i32_w]
              rfl
            refine take_ (i := 8) (N := some 48) (v := ?_) (a' := ?_) #[true, true, false, false, true, true, true, true, true, false, false, false, false, false, false, false] rfl rfl (by kernel_rfl) (fun _ _ _ h => h) (Or.inl ⟨by rfl, ?_⟩) hHeld ?_ ?_
            rotate_left
            · rintro w' ⟨s0, s1, s2, s3⟩
              go_simp
              with_reducible rfl
            rotate_left
            · simp only [Act.put, List.setIfInBounds_toArray, List.set_cons_zero, List.set_cons_succ, i64_w, i32_w]
              rfl
            refine take_ (i := 9) (N := some 49) (v := ?_) (a' := ?_) #[true, true, false, false, true, true, true, true, true, true, false, false, false, false, false, false] rfl rfl (by kernel_rfl) (fun _ _ _ h => h) (Or.inl ⟨by rfl, ?_⟩) hHeld ?_ ?_
            rotate_left
            · rintro w' ⟨s0, s1, s2, s3⟩
              go_simp
              with_reducible rfl
            rotate_left
            · simp only [Act.put, List.setIfInBounds_toArray, List.set_cons_zero, List.set_cons_succ, i64_w, i32_w]
              rfl
            refine pure_ (i := 10) (N := some 50) (v := ?_) (a' := ?_) #[true, true, false, false, true, true, true, true, true, true, true, false, false, false, false, false] rfl rfl (by kernel_rfl) (fun _ _ _ h => h) (Or.inl ⟨by rfl, ?_⟩) ?_ ?_
            rotate_left
            · intro w'
              go_simp
              with_reducible rfl
            rotate_left
            · simp only [Act.put, List.setIfInBounds_toArray, List.set_cons_zero, List.set_cons_succ, i64_w, i32_w]
              rfl
            refine take_ (i := 11) (N := some 51) (v := ?_) (a' := ?_) #[true, true, false, false, true, true, true, true, true, true, true, true, false, false, false, false] rfl rfl (by kernel_rfl) (fun _ _ _ h => h) (Or.inl ⟨by rfl, ?_⟩) hHeld ?_ ?_
            rotate_left
            · rintro w' ⟨s0, s1, s2, s3⟩
              go_simp
              with_reducible rfl
            rotate_left
            · simp only [Act.put, List.setIfInBounds_toArray, List.set_cons_zero, List.set_cons_succ, i64_w, i32_w]
              rfl
            refine pure_ (i := 12) (N := some 52) (v := ?_) (a' := ?_) #[true, true, false, false, true, true, true, true, true, true, true, true, true, false, false, false] rfl rfl (by kernel_rfl) (fun _ _ _ h => h) (Or.inl ⟨by rfl, ?_⟩) ?_ ?_
            rotate_left
            · intro w'
              go_simp
              with_reducible rfl
            rotate_left
            · simp only [Act.put, List.setIfInBounds_toArray, List.set_cons_zero, List.set_cons_succ, i64_w, i32_w]
              rfl
            refine pure_ (i := 3) (N := some 43) (v := ?_) (a' := ?_) #[true, true, false, true, true, true, true, true, true, true, true, true, true, false, false, false] rfl rfl (by kernel_rfl) (fun _ _ _ h => h) (Or.inl ⟨by rfl, ?_⟩) ?_ ?_
            rotate_left
            · intro w'
              go_simp
              with_reducible rfl
            rotate_left
            · simp only [Act.put, List.setIfInBounds_toArray, List.set_cons_zero, List.set_cons_succ, i64_w, i32_w]
              rfl
            refine fork_ (i := 2) (j := 13) (N := 42) (v := .slice (some ⟨g, 0, none⟩) t.length cap) (w1 := W4) (a' := ?fa) #[true, true, true, true, true, true, true, true, true, true, true, true, true, false, false, false] #[true, true, false, true, true, true, true, true, true, true, true, true, true, true, false, false] #[true, true, true, true, true, true, true, true, true, true, true, true, true, true, false, false] rfl rfl rfl rfl (by decide) (by kernel_rfl) (Or.inl ⟨by rfl, ?hy⟩) (by rfl) ?hs1 ?ha ?hw2 ?hs2 ?h
            case ha =>
              simp only [Act.put, List.setIfInBounds_toArray, List.set_cons_zero, List.set_cons_succ, i64_w, i32_w]
              rfl
            case hw2 => rfl
            case hs1 =>
              go_simp
              exact HW4.out
            case hs2 =>
              go_simp
              exact HW4.out
            case hy =>
              rintro w' (rfl | rfl)
              · obtain ⟨s0, s1, s2, s3⟩ := hHeld
                go_simp
              · go_simp
            refine pure_ (i := 14) (N := some 53) (v := ?_) (a' := ?_) #[true, true, true, true, true, true, true, true, true, true, true, true, true, true, true, false] rfl rfl (by kernel_rfl) (fun _ _ _ h => h) (Or.inl ⟨by rfl, ?_⟩) ?_ ?_
            rotate_left
            · intro w'
              go_simp
              with_reducible rfl
            rotate_left
            · simp only [Act.put, List.setIfInBounds_toArray, List.set_cons_zero, List.set_cons_succ, i64_w, i32_w]
              rfl
            refine last_ (i := 15) (N := none) #[true, true, true, true, true, true, true, true, true, true, true, true, true, true, true, true] rfl rfl (by kernel_rfl) (by decide) (fun K hK => ?_)
            refine skip_ (w1 := ?_) (by rfl) rfl ?_ ?_
            rotate_left
            · go_simp
              rfl
            refine hK.out _ _ ?_
            clear hK K
            rw [HW5.out]
            refine done_ (by kernel_rfl) ?_
            show K' _ _
            refine hK' _ _ ?_
            have HD5 : Aside0 (RD w base g S t.length (.slice (some ⟨g, 0, none⟩) t.length cap) ((bs'.set ps.length (bs'.getD k 0)).set k (bs'.getD ps.length 0)) ((t'.set ps.length (t'.getD k [])).set k (t'.getD ps.length [])) ds W5) := Aside0.mk (by
              rw [← HW5.out, ← HW4.out, HBK.out, HBR.out]
              exact (HD0.out.below HWB.out).swap hrT hk HRR.out HRL.out (by rw [← HBR.out]; exact hHeld.2.2.2) (by rw [← HBK.out]; exact hHeld.2.2.1) l1 m1)
            have hgw := HD5.out.slt g HD5.out.sg
            have HR5 : Aside0 (Bx W5 wo.heap.size (.int .i64 (ps.length : Int))) := Aside0.mk (by
              rw [← HW5.out, ← HW4.out]
              exact ((HR0.out.below HWB.out).far (c := g) (by omega) _ _).far (c := g) (by omega) _ _)
            have HO5 : Aside0 (W5.ownsRow (w.heap.size + 1) 3 1 (.slice pA ps.length pc) ps.length (nums .i64 (ps.map fun (p : Nat) => (p : Int)))) := Aside0.mk (by
              rw [← HW5.out, ← HW4.out]
              exact own_far (own_far (own_below HO0.out HWB.out) (by omega) _) (by omega) _)
            clear hHeld HWB HN HM y3 y4 y5 y6 HD0 HO0 HR0 HW4 HW5
            clear W3 W4
            have hx0 := HX.out
            obtain ⟨b1, hb1⟩ : ∃ b1, b1 = (bs'.set ps.length (bs'.getD k 0)).set k (bs'.getD ps.length 0) := ⟨_, rfl⟩
            rw [← hb1] at HD5
            obtain ⟨t1, ht1⟩ : ∃ t1, t1 = (t'.set ps.length (t'.getD k [])).set k (t'.getD ps.length []) := ⟨_, rfl⟩
            rw [← ht1] at HD5
            have hrow : t1.getD ps.length [] = t'.getD k [] := by rw [ht1]; exact swap_at hr' hk'
            have HT1 := Aside0.mk ht1
            have HROW := Aside0.mk hrow
            have h1l := HD5.out.tlen
            have hr1 : ps.length < t1.length := by rw [h1l]; exact hrT
            obtain ⟨⟨c1, p1, p2⟩, p3⟩ := HD5.out.tab.main ps.length hr1
            obtain ⟨p4, p5⟩ := HD5.out.tab.rows ps.length hr1 c (by rw [hrow, HRL.out]; omega)
            have p6 : (t1.getD ps.length []).getD c 0 = x := by rw [hrow]; exact hx0.symm
            rw [p6] at p4
            rw [hrow, HRL.out] at p1 p2
            obtain ⟨bp, hbp⟩ : ∃ bp, bp = b1.getD ps.length 0 := ⟨_, rfl⟩
            rw [← hbp] at p2 p4 p5
            have HBP := Aside0.mk hbp
            have hInF : Sig.InF x := by rw [hx0]; exact Sig.ent_inF HI.out.rect k c
            have HFI : Aside0 (field_Inverse.f x = some (Sig.finv x, 0)) := Aside0.mk (by
              unfold field_Inverse.f
              rw [if_neg (by have := HZ.out; unfold Sig.InF at hInF; omega)])
            have e2 := HD5.out.box.1
            have e6 := HR5.out.1
            have v1 := HD5.out.box.lt
            have v2 := HR5.out.lt
            have v3 : g < W5.heap.size := by omega
            clear hx0 hb1 ht1 hrow h1l p3 p5 p6 hbp hInF
            gi_wp2_with (first | (refine ⟨trivial, ?_⟩; gi_at_call 123; refine (callsIn_wide.2 (field_Inverse.calls x (Sig.finv x) 0 _ HFI.out)).mono ?_; rintro e w5 ⟨rfl, ⟨nd, hnd⟩⟩; have hdr : Below W5.heap.size W5 w5 := (by rw [hnd]; exact pw_below_drewN (Below.refl _ _) nd); have HDW := Aside0.mk hdr; have v4 : w.heap.size < w5.heap.size := Nat.lt_of_lt_of_le v1 hdr.size; have v5 : wo.heap.size < w5.heap.size := Nat.lt_of_lt_of_le v2 hdr.size; have v6 : g < w5.heap.size := Nat.lt_of_lt_of_le v3 hdr.size; replace e2 := (hdr.cell (p := ⟨w.heap.size, 0, none⟩) v1).trans e2; replace e6 := (hdr.cell (p := ⟨wo.heap.size, 0, none⟩) v2).trans e6; replace p2 := (hdr.cell (p := ⟨g, ps.length, none⟩) v3).trans p2; clear hnd hdr v1 v2 v3 p4) | (refine ⟨trivial, ?_⟩; gi_at_call 185; refine (callsIn_wide.2 (after_c _ _ _ _ _)).mono ?_; rintro e w' ⟨rfl, rfl⟩))
            obtain ⟨W6, hW6⟩ : ∃ W6, ((w5.alloc (.cells #[.int .i64 (Sig.finv x)] 3)).alloc (.cells #[.slice (some ⟨bp, 0, none⟩) n c1] 23)).alloc (.cells #[.int .i64 (c : Int)] 3) = W6 := ⟨_, rfl⟩
            rw [hW6]
            have z6 : W6.heap.size = w5.heap.size + 1 + 1 + 1 := by rw [← hW6]; simp
            have hB6 : Below w5.heap.size w5 W6 := by rw [← hW6]; exact (((Below.refl _ w5).alloc (Nat.le_refl _) _).alloc (by simp) _).alloc (by simp; omega) _
            have b8 : Bx W6 w5.heap.size (.int .i64 (Sig.finv x)) := by
              rw [← hW6]; exact ((Bx.new w5 _ _).alloc _).alloc _
            have b9 : Bx W6 (w5.heap.size + 1) (.slice (some ⟨bp, 0, none⟩) n c1) := by
              rw [← hW6]; have := (Bx.new (w5.alloc (.cells #[.int .i64 (Sig.finv x)] 3)) (.slice (some ⟨bp, 0, none⟩) n c1) 23).alloc (.cells #[.int .i64 (c : Int)] 3); simpa using this
            have b10 : Bx W6 (w5.heap.size + 1 + 1) (.int .i64 (c : Int)) := by
              rw [← hW6]; have := Bx.new ((w5.alloc (.cells #[.int .i64 (Sig.finv x)] 3)).alloc (.cells #[.slice (some ⟨bp, 0, none⟩) n c1] 23)) (.int .i64 (c : Int)) 3; simpa using this
            have HD6 := Aside0.mk ((HD5.out.below HDW.out).below hB6)
            have HR6 := Aside0.mk ((HR5.out.below HDW.out).below hB6)
            have HO6 := Aside0.mk (own_below (own_below HO5.out HDW.out) hB6)
            have HB8 := Aside0.mk b8
            have HB9 := Aside0.mk b9
            have HB10 := Aside0.mk b10
            have HZ6 := Aside0.mk z6
            clear hB6 b8 b9 b10 z6 hW6 e2 e6 p2 HD5 HR5 HO5 HDW
            have hbpl : bp < w.heap.size := by rw [HBP.out]; exact HD6.out.slt _ (HD6.out.low _ hrT)
            obtain ⟨ar, har⟩ : ∃ ar, ar = t1.getD ps.length [] := ⟨_, rfl⟩
            have hal : ar.length = n := by rw [har, HROW.out]; exact HRL.out
            have haI : ∀ y ∈ ar, Sig.InF y := by rw [har, HROW.out]; exact (HI.out.rect _ (Sig.getD_mem hk')).2
            have haz : ∀ d, d < c → ar.getD d 0 = 0 := fun d hd => by rw [har, HROW.out]; exact HI.out.zero k d hk1 hk' hd
            obtain ⟨L, hL⟩ : ∃ L, L = Sig.times ar (Sig.finv x) := ⟨_, rfl⟩
            have hLL : L.length = n := by rw [hL, Sig.times_length]; exact hal
            have hLx : ∀ j, L.getD j 0 = ar.getD j 0 * Sig.finv x % 1073741789 := fun j => by rw [hL]; exact Sig.times_getD _ _ _
            have h0 : CJ W6 base g b1 t1 ps.length ar L c W6 := ⟨by rw [hL, times_start haI haz, har, set_self_row]; exact HD6.out.tab, Chg.refl _ _⟩
            have H0 := Aside0.mk h0
            have HAL := Aside0.mk hal
            have HLL := Aside0.mk hLL
            have HLX := Aside0.mk hLx
            have HAR := Aside0.mk har
            have HL := Aside0.mk hL
            clear h0 hal hLL hLx har hL haI haz
            refine range_all (by omega) rfl (enters_of Try.func206 (by kernel_rfl) rfl) (CJ W6 base g b1 t1 ps.length ar L) c (fun j => j = n)
              (fun j vs j' => j < n ∧ vs = #[.int .i64 (j : Int), .int .i64 (ar.getD j 0)] ∧ j' = j + 1) ?_ H0.out ?_ ?_ ?_ ?_
            · exact CJ.own _ _ _ _ _ _ _ _ (Nat.le_refl _)
            · rintro j vs j' ⟨_, rfl, _⟩; rfl
            · intro l W2 J _ hJI hJ hY hj0
              refine (after1_in (l := l) (J := J) (bcol := w5.heap.size + 1 + 1) (brow := w5.heap.size + 1) (br := bp) (col := c) (L := n) (cap := c1) (x := fun j => ar.getD j 0) (by omega) (fun j W hj => ?_) (fun j W hj0 hj => hY j _ _ W ⟨hj0, rfl, rfl⟩ hj) (by omega) W2 hj0).mono (fun e W' h => ⟨h.1, n, rfl, h.2⟩)
              obtain ⟨hT2, hC2⟩ := hJI j W hj
              rw [← HBP.out] at hC2
              refine ⟨HB10.out.chg hC2 (by omega), HB9.out.chg hC2 (by omega), fun hjn => ?_⟩
              have hr := hT2.rows ps.length (by simpa using hr1)
              rw [getD_set_row hr1, if_pos rfl, ← HBP.out] at hr
              have := (hr j (by rw [mixRow_length (HAL.out.trans HLL.out.symm), HAL.out]; exact hjn)).1
              rw [mixRow_at (HAL.out.trans HLL.out.symm) (by rw [HAL.out]; exact hjn), if_neg (by omega)] at this
              exact this
            · rintro l j vs j' W ⟨hjn, rfl, rfl⟩ hI
              have HI2 := Aside0.mk hI
              clear hI
              have hLj := HLX.out j
              obtain ⟨xj, hxj⟩ : ∃ xj, xj = ar.getD j 0 := ⟨_, rfl⟩
              rw [← hxj] at hLj ⊢
              have HXJ := Aside0.mk hxj
              have HLJ := Aside0.mk hLj
              clear hxj hLj
              gi_wp2
              refine ⟨KeepsFrom.refl _ _, HI2.out, ?_⟩
              clear HI2
              rintro W2 ⟨hT2, hC2⟩
              have hmr : ((t1.set ps.length (mixRow ar L j)).getD ps.length []) = mixRow ar L j := by rw [getD_set_row hr1, if_pos rfl]
              have hml : (mixRow ar L j).length = n := by rw [mixRow_length (HAL.out.trans HLL.out.symm)]; exact HAL.out
              obtain ⟨⟨cr2, m1', m2⟩, _⟩ := hT2.main ps.length (by simpa using hr1)
              obtain ⟨q1, q2⟩ := hT2.rows ps.length (by simpa using hr1) j (by rw [hmr, hml]; exact hjn)
              rw [hmr, hml, ← HBP.out] at m2
              rw [hmr, mixRow_at (HAL.out.trans HLL.out.symm) (by rw [HAL.out]; exact hjn), if_neg (by omega), ← HXJ.out, ← HBP.out] at q1
              rw [← HBP.out] at q2
              have hCB := hC2
              rw [← HBP.out] at hCB
              have hbk := World.block_lt_of_cell? W2 _ q1
              have e2 := (HD6.out.box.chg hCB (by omega)).1
              have e6 := (HR6.out.chg hCB (by omega)).1
              have e8 := (HB8.out.chg hCB (by omega)).1
              have HT2 := Aside0.mk hT2
              have HC2 := Aside0.mk hC2
              have HMR := Aside0.mk hmr
              have HML := Aside0.mk hml
              have d1 : (0 : Int) ≤ (j : Int) := by omega
              have d2 : (j : Int) < (n : Int) := by omega
              have d3 : decide (j < n) = true := decide_eq_true hjn
              clear hT2 hC2 hCB hmr hml m1'
              gi_wp2
              refine startIn_ (n := 10) (S := fun w' => w'.cell? ⟨w.heap.size, 0, none⟩ = some (.slice (some ⟨g, 0, none⟩) t.length cap) ∧ w'.cell? ⟨wo.heap.size, 0, none⟩ = some (.int .i64 (ps.length : Int)) ∧ w'.cell? ⟨g, ps.length, none⟩ = some (.slice (some ⟨bp, 0, none⟩) n cr2) ∧ w'.cell? ⟨w5.heap.size, 0, none⟩ = some (.int .i64 (Sig.finv x))) (ds := [9]) #[false, false, false, false, false, false, false, false, false, false] (by kernel_rfl) rfl rfl (by kernel_rfl) (fun h => by obtain ⟨_, _, h⟩ := h; exact h) ⟨e2, e6, m2, e8⟩ (fun hHeld => ?_)
              have hW2d : Below W2.heap.size W2 W2.drew := (Below.refl _ _).drew
              generalize W2.drew = W3 at hHeld hW2d ⊢
              have q3 : W3.cell? ⟨bp, j, none⟩ = some (.int .i64 xj) := (hW2d.cell (p := ⟨bp, j, none⟩) hbk).trans q1
              clear e2 e6 e8 m2 q1
              refine take_ (i := 0) (N := some 73) (v := ?_) (a' := ?_) #[true, false, false, false, false, false, false, false, false, false] rfl rfl (by kernel_rfl) (fun _ _ _ h => h) (Or.inl ⟨by rfl, ?_⟩) hHeld ?_ ?_
              rotate_left
              · rintro w' ⟨s0, s1, s2, s3⟩
                go_simp
                with_reducible rfl
              rotate_left
              · simp only [Act.put, List.setIfInBounds_toArray, List.set_cons_zero, List.set_cons_succ, i64_w, i32_w]
                rfl
              refine take_ (i := 1) (N := some 74) (v := ?_) (a' := ?_) #[true, true, false, false, false, false, false, false, false, false] rfl rfl (by kernel_rfl) (fun _ _ _ h => h) (Or.inl ⟨by rfl, ?_⟩) hHeld ?_ ?_
              rotate_left
              · rintro w' ⟨s0, s1, s2, s3⟩
                go_simp
                with_reducible rfl
              rotate_left
              · simp only [Act.put, List.setIfInBounds_toArray, List.set_cons_zero, List.set_cons_succ, i64_w, i32_w]
                rfl
              refine pure_ (i := 2) (N := some 75) (v := ?_) (a' := ?_) #[true, true, true, false, false, false, false, false, false, false] rfl rfl (by kernel_rfl) (fun _ _ _ h => h) (Or.inl ⟨by rfl, ?_⟩) ?_ ?_
              rotate_left
              · intro w'
                go_simp
                with_reducible rfl
              rotate_left
              · simp only [Act.put, List.setIfInBounds_toArray, List.set_cons_zero, List.set_cons_succ, i64_w, i32_w]
                rfl
              refine take_ (i := 3) (N := some 76) (v := ?_) (a' := ?_) #[true, true, true, true, false, false, false, false, false, false] rfl rfl (by kernel_rfl) (fun _ _ _ h => h) (Or.inl ⟨by rfl, ?_⟩) hHeld ?_ ?_
              rotate_left
              · rintro w' ⟨s0, s1, s2, s3⟩
                go_simp
                with_reducible rfl
              rotate_left
              · simp only [Act.put, List.setIfInBounds_toArray, List.set_cons_zero, List.set_cons_succ, i64_w, i32_w]
                rfl
              refine pure_ (i := 4) (N := some 77) (v := ?_) (a' := ?_) #[true, true, true, true, true, false, false, false, false, false] rfl rfl (by kernel_rfl) (fun _ _ _ h => h) (Or.inl ⟨by rfl, ?_⟩) ?_ ?_
              rotate_left
              · intro w'
                go_simp
                with_reducible rfl
              rotate_left
              · simp only [Act.put, List.setIfInBounds_toArray, List.set_cons_zero, List.set_cons_succ, i64_w, i32_w]
                rfl
              refine pure_ (i := 5) (N := some 78) (v := ?_) (a' := ?_) #[true, true, true, true, true, true, false, false, false, false] rfl rfl (by kernel_rfl) (fun _ _ _ h => h) (Or.inl ⟨by rfl, ?_⟩) ?_ ?_
              rotate_left
              · intro w'
                go_simp
                with_reducible rfl
              rotate_left
              · simp only [Act.put, List.setIfInBounds_toArray, List.set_cons_zero, List.set_cons_succ, i64_w, i32_w]
                rfl
              refine take_ (i := 6) (N := some 79) (v := ?_) (a' := ?_) #[true, true, true, true, true, true, true, false, false, false] rfl rfl (by kernel_rfl) (fun _ _ _ h => h) (Or.inl ⟨by rfl, ?_⟩) hHeld ?_ ?_
              rotate_left
              · rintro w' ⟨s0, s1, s2, s3⟩
                go_simp
                with_reducible rfl
              rotate_left
              · simp only [Act.put, List.setIfInBounds_toArray, List.set_cons_zero, List.set_cons_succ, i64_w, i32_w]
                rfl
              refine one_ (i := 7) (N := some 80) #[true, true, true, true, true, true, true, true, false, false] rfl rfl (by kernel_rfl) (by decide) (fun K hK => ?_)
              refine goes_ Try.func65 (by kernel_rfl) rfl #[.int .i64 xj, .int .i64 (Sig.finv x)] (by rfl) rfl rfl (by (try simp only [List.map_toArray, List.map_cons, List.map_nil]); first | done | rfl) ?_
              refine (mul_c _ _ _).mono ?_
              rintro e w' ⟨rfl, ⟨nd, rfl⟩⟩
              refine ⟨_, rfl, hK.out _ _ ⟨pw_cell_below (pw_below_drewN (Below.refl _ _) _) hHeld.1, pw_cell_below (pw_below_drewN (Below.refl _ _) _) hHeld.2.1, pw_cell_below (pw_below_drewN (Below.refl _ _) _) hHeld.2.2.1, pw_cell_below (pw_below_drewN (Below.refl _ _) _) hHeld.2.2.2⟩ (fun hHeld => ?_)⟩
              clear hK K
              refine pure_ (i := 8) (N := some 81) (v := ?_) (a' := ?_) #[true, true, true, true, true, true, true, true, true, false] rfl rfl (by kernel_rfl) (fun _ _ _ h => h) (Or.inl ⟨by rfl, ?_⟩) ?_ ?_
              rotate_left
              · intro w'
                go_simp
                with_reducible rfl
              rotate_left
              · simp only [Act.put, List.setIfInBounds_toArray, List.set_cons_zero, List.set_cons_succ, i64_w, i32_w]
                rfl
              have hW5 := below_then hW2d hW2d.size (pw_below_drewN (Below.refl _ _) nd)
              have hfz : (W3.drewN nd).frozen? ⟨bp, j, none⟩ = false := (hW5.frozen (p := ⟨bp, j, none⟩) hbk).trans q2
              refine last_ (i := 9) (N := none) #[true, true, true, true, true, true, true, true, true, true] rfl rfl (by kernel_rfl) (by decide) (fun K hK => ?_)
              refine skip_ (w1 := ?_) (by rfl) rfl ?_ ?_
              rotate_left
              · go_simp
                rfl
              refine hK.out _ _ ?_
              clear hK K
              refine done_ (by kernel_rfl) ?_
              refine ⟨?_, ?_⟩
              · exact ((keeps_below hW5).trans (KeepsOthers.setCell _ _ _)).from _
              · have hT5 := (HT2.out.below hW5).put (i := ps.length) (j := j) (by simpa using hr1) (by rw [HMR.out, HML.out]; exact hjn) (L.getD j 0)
                rw [HMR.out, mixRow_set (HAL.out.trans HLL.out.symm) (by rw [HAL.out]; exact hjn), List.set_set, ← HBP.out] at hT5
                rw [← HLJ.out]
                exact ⟨hT5, (HC2.out.then_below hW5).then_set (.inl HBP.out) _⟩
            · rintro D j W hD hjn ⟨hT2, hC2⟩ hK
              rw [hjn] at hT2
              clear hjn j H0
              have hmx : t1.set ps.length (mixRow ar L n) = elim (scaled t' ps.length k c) ps.length c 0 := by
                rw [← HAL.out, mixRow_all (HAL.out.trans HLL.out.symm), HL.out, HAR.out, HROW.out, HT1.out, HX.out]; rfl
              rw [hmx] at hT2
              have hsl : (scaled t' ps.length k c).length = t.length := by rw [show (scaled t' ps.length k c).length = t'.length by simp [scaled]]; exact HTL.out
              have h7 := HD6.out.out hrT hT2 (by rw [elim_length]; exact hsl) hC2
              have hCB := hC2
              rw [← HBP.out] at hCB
              have HD7 := Aside0.mk (h7.mark (HD6.out.marks.cons (D := D) (Nat.le_trans (Nat.le_of_lt HD6.out.box.lt) hD) hK hD (fun D' hb' hD' => (hC2.block D' (Array.getElem?_eq_some_iff.1 hD').1 (fun e => by have h1 := HBP.out; omega)).trans hD')))
              have HR7 := Aside0.mk (HR6.out.chg hCB (by omega))
              have HO7 := Aside0.mk (own_chg HO6.out hCB (fun _ _ => by omega))
              have HSL := Aside0.mk hsl
              clear hT2 hC2 hCB h7 hK hmx hsl HB8 HB9 HB10 HZ6 HLX HLL HL HAL HAR HROW HT1 HBP HD6 HR6 HO6 p1 hbpl hr1
              have e2 := HD7.out.box.1
              gi_wp2
              clear e2
              gi_loopg [84] (t.length) (fun gk v84 w7 => ∃ i : Nat, i ≤ t.length ∧ gk = t.length - i ∧ v84 = .int .i64 (i : Int) ∧ RD w base g S t.length (.slice (some ⟨g, 0, none⟩) t.length cap) b1 (elim (scaled t' ps.length k c) ps.length c i) (markOf D :: ds) w7 ∧ Bx w7 wo.heap.size (.int .i64 (ps.length : Int)) ∧ w7.ownsRow (w.heap.size + 1) 3 1 (.slice pA ps.length pc) ps.length (nums .i64 (ps.map fun (p : Nat) => (p : Int))))
              case atStart => exact ⟨0, Nat.zero_le _, rfl, rfl, HD7.out, HR7.out, HO7.out⟩
              case round =>
                clear HD7 HR7 HO7
                obtain ⟨i, hi, rfl, rfl, hD8, hR8, hO8⟩ := hrel
                have e2 := hD8.box.1
                have e6 := hR8.1
                have HD8 := Aside0.mk hD8
                have HR8 := Aside0.mk hR8
                have HO8 := Aside0.mk hO8
                clear hD8 hR8 hO8
                by_cases hiT : i < t.length
                · have y1 : decide ((i : Int) < (t.length : Int)) = true := decide_eq_true (by omega)
                  by_cases hie : i = ps.length
                  · have y2 : ((i : Int) == (ps.length : Int)) = true := beq_iff_eq.2 (by omega)
                    have HIE := Aside0.mk hie
                    clear hie
                    gi_wp2
                    gi_roundg (t.length - (i + 1))
                    case measure => omega
                    case rel =>
                      refine ⟨i + 1, by omega, rfl, by go_num, ?_, HR8.out, HO8.out⟩
                      rw [elim, if_pos HIE.out]
                      exact HD8.out
                  · have y2 : ((i : Int) == (ps.length : Int)) = false := beq_eq_false_iff_ne.2 (by omega)
                    have hel : (elim (scaled t' ps.length k c) ps.length c i).length = t.length := by rw [elim_length]; exact HSL.out
                    have hcl := clear_c wr base g cap b1 (elim (scaled t' ps.length k c) ps.length c i) i ps.length c n HD8.out.tab (rect_elim (scaled_rect HI.out.rect hr' hk') (by rw [HSL.out]; exact hrT) i (by rw [HSL.out]; exact hi)) (by rw [hel]; exact hiT) (by rw [hel]; exact hrT) hie (by omega) (by omega)
                      (fun d hd => scaled_zero hr' hk' (by rw [HTL.out]; exact hi) (HI.out.zero k d hk1 hk' hd)) (Nat.le_trans hb HD8.out.chg.size) (by rw [hel]; exact hcap)
                    rw [hel] at hcl
                    have HCL := Aside0.mk hcl
                    have HEL := Aside0.mk hel
                    clear hcl hel
                    gi_wp2_with (refine ⟨trivial, ?_⟩; gi_at_call 186; refine (callsIn_wide.2 HCL.out).mono ?_; rintro e w8 ⟨rfl, hT8, hC8⟩; have HT8 := Aside0.mk hT8; have HC8 := Aside0.mk hC8; clear hT8 hC8 HCL)
                    gi_roundg (t.length - (i + 1))
                    case measure => omega
                    case rel =>
                      have hlt := HD8.out.slt _ (HD8.out.low i hiT)
                      refine ⟨i + 1, by omega, rfl, by go_num, ?_, HR8.out.chg HC8.out (by omega), own_chg HO8.out HC8.out (fun _ _ => by omega)⟩
                      rw [elim, if_neg hie]
                      exact HD8.out.out hiT HT8.out (by rw [List.length_set]; exact HEL.out) HC8.out
                · obtain rfl : i = t.length := by omega
                  have y1 : decide ((t.length : Int) < (t.length : Int)) = false := decide_eq_false (by omega)
                  have HOA := Aside0.mk (own_below HO8.out ((Below.refl _ wr).alloc (Nat.le_refl _) (.cells #[.int .i64 (c : Int)] 3)))
                  have hpl : (ps.length + 1) * 8 ≤ 140737488355328 := by omega
                  have hsz := HD8.out.box.lt
                  obtain ⟨i0, hi0, hz0, hz1, hz2⟩ := info_parts (P := Try.prog) (e := 3) (z := .int .i64 0) (size := 1) (bytes := 8) (by kernel_rfl)
                  gi_wp2_with (gi_at_builtin; refine wpListIn_append_own _ rfl _ _ 23 rfl (w.heap.size + 1) 3 i0 (.int .i64 0) 1 8 (by kernel_rfl) hi0 hz0 hz1 hz2 rfl (by decide) _ _ _ rfl HOA.out ⟨wr.heap.size, 0, none⟩ 1 1 [.int .i64 (c : Int)] rfl ?qc1 ?qc2 ?qc3 ?qc4 ?qc5 ?qc6 ?_)
                  case qc1 => rfl
                  case qc2 =>
                    intro j u hj
                    have hj1 := (List.getElem?_eq_some_iff.1 hj).1
                    obtain rfl : j = 0 := by simpa using hj1
                    simp only [List.getElem?_cons_zero, Option.some.injEq] at hj
                    subst hj
                    exact (Bx.new wr (.int .i64 (c : Int)) 3).1
                  case qc3 => intro u hu; simp only [List.mem_singleton] at hu; subst hu; rfl
                  case qc4 => unfold maxLen; omega
                  case qc5 => omega
                  case qc6 => simp; omega
                  intro v' w9 hown hgrow hnil
                  have HW9 := Aside0.mk hown
                  have HG9 := Aside0.mk hgrow
                  clear hown hgrow hnil e2 e6 hi0 hz0 hz1 hz2 i0
                  gi_wp2
                  gi_roundg (many - (c + 1))
                  case measure => omega
                  case rel =>
                    refine ⟨c + 1, b1, by omega, rfl, by go_num, ?_⟩
                    rw [HST.out, step_some (HF.out.symm.trans (Sig.find_stop (fun _ => by rw [← HX.out]; exact HZ.out))) hk']
                    have he : elim (scaled t' ps.length k c) ps.length c t.length = Sig.pivot t' ps.length k c := by rw [← HTL.out]; exact elim_pivot hr' hk'
                    have h9 := (HD8.out.below ((Below.refl _ wr).alloc (Nat.le_refl _) (.cells #[.int .i64 (c : Int)] 3))).appended HOA.out HG9.out
                    rw [he] at h9
                    refine ⟨h9, ?_⟩
                    have h10 := HW9.out
                    simp only [List.length_append, List.length_cons, List.length_nil, List.map_append, List.map_cons, List.map_nil, nums_append]
                    exact h10
        · obtain rfl : k = t.length := by omega
          gi_wp2
          gi_roundg (many - (c + 1))
          case measure => omega
          case rel =>
            refine ⟨c + 1, bs', by omega, rfl, by go_num, ?_⟩
            rw [HST.out, step_none (HF.out.symm.trans (Sig.find_stop (fun h => by rw [HTL.out] at h; omega)) |>.trans HTL.out.symm)]
            exact ⟨HD0.out, HO0.out⟩
    · have f1 : decide ((c : Int) < (many : Int)) = false := decide_eq_false (by omega)
      obtain rfl : c = many := by omega
      gi_wp2
      exact leaves_marks (base := w.heap.size) (R := RedPost w base g bs t c) (fun W => Tab W base g bs' t' ∧ W.ownsRow (w.heap.size + 1) 3 1 (.slice pA ps.length pc) ps.length (nums .i64 (ps.map fun (p : Nat) => (p : Int))) ∧ Chg S w W)
        (fun W D hb hD hI => ⟨hI.1.kept (grownBy_putObj' W D (.deferred none)) (fun r e => by cases e; exact ⟨_, hD, rfl⟩), own_nocell hI.2.1 (grownBy_putObj' W D (.deferred none)) (fun r e => by cases e; exact ⟨_, hD, rfl⟩), hI.2.2.then_grown (grownBy_putObj' W D (.deferred none)) (fun k e => by cases e; exact .inr hb)⟩)
        (fun W hI => ⟨.slice pA ps.length pc, by simp [results, Try.results120, go_sem], .slice pA ps.length pc, bs', rfl, HD.out.len.trans hlb.symm, by rw [HRC.out]; exact hI.1, by rw [HRC.out]; exact own_mono hI.2.1 (Nat.le_succ _), by rw [← HS.out]; exact hI.2.2⟩) ds wo HD.out.marks ⟨HD.out.tab, HO.out, HD.out.chg⟩
end Go.Proofs.Ytdbamhckgaoibaa.P
