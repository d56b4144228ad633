/- A part of the proof of DealingSpec: A table of rows of whole numbers in memory: a block of slices, each with a block of its own.; Arguments as data: what is handed over reads as a kind.; The program's own types, as arguments: what is handed over reads as a value.; The calls of signatoryref09.Mod, signatoryref09.Add, signatoryref09.Mul, signatoryref09.power, signatoryref09.Inverse, signatoryref10.exponent, signatoryref10.p; The calls of signatoryref13.Numbers, signatoryref13.Check, signatoryref13.Error, signatoryref13.less, signatoryref13.times, signatoryref13.Turned come to what t -/
import Derived.Test.YtdbamhckgaoibaaZDSP2
import Derived.Carry
import Derived.ChangeSame
import Derived.Deep.Slices
import Derived.Deep.Strs
import Derived.WideShapes
namespace Go.Proofs.Ytdbamhckgaoibaa.P
open Go.RowKit Go.Proofs.YtdbamhckgaoibaaW.PrintWords Go.Proofs.YtdbamhckgaoibaaW.PrintLast Go.Proofs.YtdbamhckgaoibaaW.PrintMore
set_option linter.unusedVariables false
set_option linter.unusedSimpArgs false
def RowAt (W : World) (b : Nat) (xs : List Int) : Prop := ∀ j, j < xs.length → W.cell? ⟨b, j, none⟩ = some (.int .i64 (xs.getD j 0)) ∧ W.frozen? ⟨b, j, none⟩ = false
structure Tab (W : World) (base g : Nat) (bs : List Nat) (t : List (List Int)) : Prop where
  geg : base ≤ g
  ge : ∀ i, i < t.length → base ≤ bs.getD i 0
  ne : ∀ i, i < t.length → bs.getD i 0 ≠ g
  inj : ∀ i j, i < t.length → j < t.length → bs.getD i 0 = bs.getD j 0 → i = j
  main : ∀ i, i < t.length → (∃ c, (t.getD i []).length ≤ c ∧ W.cell? ⟨g, i, none⟩ = some (.slice (some ⟨bs.getD i 0, 0, none⟩) (t.getD i []).length c)) ∧ W.frozen? ⟨g, i, none⟩ = false
  rows : ∀ i, i < t.length → RowAt W (bs.getD i 0) (t.getD i [])
theorem getD_set_row {t : List (List Int)} {i k : Nat} {row : List Int} (hi : i < t.length) : (t.set i row).getD k [] = if i = k then row else t.getD k [] := by
  rw [Sig.getD_set]
  by_cases h : i = k
  · rw [if_pos ⟨h, hi⟩, if_pos h]
  · rw [if_neg (fun h' => h h'.1), if_neg h]
theorem RowAt.move {W W' : World} {b : Nat} {xs : List Int} (h : RowAt W b xs) (hc : ∀ j v, W.cell? ⟨b, j, none⟩ = some v → W'.cell? ⟨b, j, none⟩ = some v ∧ W'.frozen? ⟨b, j, none⟩ = W.frozen? ⟨b, j, none⟩) : RowAt W' b xs := fun j hj => by
  obtain ⟨h1, h2⟩ := h j hj; obtain ⟨h3, h4⟩ := hc j _ h1; exact ⟨h3, h4.trans h2⟩
theorem Tab.move {W W' : World} {base g : Nat} {bs : List Nat} {t : List (List Int)} (h : Tab W base g bs t)
    (hc : ∀ b j v, W.cell? ⟨b, j, none⟩ = some v → W'.cell? ⟨b, j, none⟩ = some v ∧ W'.frozen? ⟨b, j, none⟩ = W.frozen? ⟨b, j, none⟩) : Tab W' base g bs t :=
  ⟨h.geg, h.ge, h.ne, h.inj, fun i hi => by
    obtain ⟨⟨c, h1, h2⟩, h3⟩ := h.main i hi; obtain ⟨h4, h5⟩ := hc g i _ h2
    exact ⟨⟨c, h1, h4⟩, h5.trans h3⟩, fun i hi => (h.rows i hi).move (hc _)⟩
theorem below_cells {W W' : World} (hb : Below W.heap.size W W') : ∀ b j v, W.cell? ⟨b, j, none⟩ = some v → W'.cell? ⟨b, j, none⟩ = some v ∧ W'.frozen? ⟨b, j, none⟩ = W.frozen? ⟨b, j, none⟩ := fun b j v hv =>
  ⟨(hb.cell (p := ⟨b, j, none⟩) (World.block_lt_of_cell? W _ hv)).trans hv, hb.frozen (p := ⟨b, j, none⟩) (World.block_lt_of_cell? W _ hv)⟩
theorem Tab.below {W W' : World} {base g : Nat} {bs : List Nat} {t : List (List Int)} (h : Tab W base g bs t) (hb : Below W.heap.size W W') : Tab W' base g bs t := h.move (below_cells hb)
theorem Tab.kept {W W' : World} {base g : Nat} {bs : List Nat} {t : List (List Int)} (h : Tab W base g bs t) {row : Option Nat} (hg : W.grownBy W' row) (hr : ∀ r, row = some r → ∃ o : Obj, W.heap[r]? = some o ∧ o.isCells = false) : Tab W' base g bs t :=
  h.move fun b j v hv => ⟨cell_kept hv hg hr, frozen_kept hv hg hr⟩
theorem Tab.far {W : World} {base g : Nat} {bs : List Nat} {t : List (List Int)} (h : Tab W base g bs t) {b j : Nat} (hg : b ≠ g) (hb : ∀ i, i < t.length → bs.getD i 0 ≠ b) (v : Value) : Tab (W.setCell ⟨b, j, none⟩ v) base g bs t :=
  ⟨h.geg, h.ge, h.ne, h.inj, fun i hi => by
    obtain ⟨⟨c, h1, h2⟩, h3⟩ := h.main i hi
    exact ⟨⟨c, h1, (World.cell?_setCell_far W ⟨b, j, none⟩ ⟨g, i, none⟩ v hg).trans h2⟩, by rw [World.frozen?_setCell]; exact h3⟩, fun i hi => (h.rows i hi).move fun j' v' hv => ⟨(World.cell?_setCell_far W ⟨b, j, none⟩ ⟨bs.getD i 0, j', none⟩ v (fun e => hb i hi e.symm)).trans hv, by rw [World.frozen?_setCell]⟩⟩
theorem Tab.put {W : World} {base g : Nat} {bs : List Nat} {t : List (List Int)} (h : Tab W base g bs t) {i j : Nat} (hi : i < t.length) (hj : j < (t.getD i []).length) (x : Int) :
    Tab (W.setCell ⟨bs.getD i 0, j, none⟩ (.int .i64 x)) base g bs (t.set i ((t.getD i []).set j x)) := by
  have hl : ∀ k, ((t.set i ((t.getD i []).set j x)).getD k []).length = (t.getD k []).length := fun k => by
    rw [getD_set_row hi]
    split
    · rename_i e; subst e; simp
    · rfl
  refine ⟨h.geg, fun k hk => h.ge k (by simpa using hk), fun k hk => h.ne k (by simpa using hk), fun k m hk hm => h.inj k m (by simpa using hk) (by simpa using hm), fun k hk => ?_, fun k hk => ?_⟩
  · rw [List.length_set] at hk
    obtain ⟨⟨c, h1, h2⟩, h3⟩ := h.main k hk; rw [hl]; exact ⟨⟨c, h1, (World.cell?_setCell_far W ⟨bs.getD i 0, j, none⟩ ⟨g, k, none⟩ _ (h.ne i hi)).trans h2⟩, by rw [World.frozen?_setCell]; exact h3⟩
  · rw [List.length_set] at hk
    intro m hm; rw [hl] at hm; obtain ⟨h1, h2⟩ := h.rows k hk m hm; refine ⟨?_, by rw [World.frozen?_setCell]; exact h2⟩; rw [getD_set_row hi]
    by_cases e : i = k
    · subst e
      rw [if_pos rfl, Sig.getD_set_int]
      by_cases e2 : j = m
      · subst e2
        rw [if_pos ⟨rfl, hj⟩]; exact World.cell?_setCell_same' _ _ _ (by rw [h1]; rfl)
      · rw [if_neg (fun h' => e2 h'.1)]
        exact (World.cell?_setCell_other W ⟨bs.getD i 0, j, none⟩ ⟨bs.getD i 0, m, none⟩ _ (by intro e3; injection e3 with _ e3; exact e2 e3)).trans h1
    · rw [if_neg e]
      exact (World.cell?_setCell_far W ⟨bs.getD i 0, j, none⟩ ⟨bs.getD k 0, m, none⟩ _ (fun e2 => e (h.inj i k hi hk e2))).trans h1
theorem getD_set_nat {l : List Nat} {p q x : Nat} : (l.set p x).getD q 0 = if p = q ∧ p < l.length then x else l.getD q 0 := by
  rw [List.getD_eq_getElem?_getD, List.getElem?_set, List.getD_eq_getElem?_getD]
  by_cases h : p = q
  · subst h
    by_cases h2 : p < l.length
    · rw [if_pos rfl, if_pos h2, if_pos ⟨rfl, h2⟩]; rfl
    · rw [if_pos rfl, if_neg h2, if_neg (fun h => h2 h.2), List.getElem?_eq_none (by omega)]
  · rw [if_neg h, if_neg (fun h' => h h'.1)]
theorem Tab.swap {W : World} {base g : Nat} {bs : List Nat} {t : List (List Int)} (h : Tab W base g bs t) (hlb : bs.length = t.length) {r k cr ck : Nat} (hr : r < t.length) (hk : k < t.length)
    (h1 : W.cell? ⟨g, r, none⟩ = some (.slice (some ⟨bs.getD r 0, 0, none⟩) (t.getD r []).length cr)) (h2 : W.cell? ⟨g, k, none⟩ = some (.slice (some ⟨bs.getD k 0, 0, none⟩) (t.getD k []).length ck))
    (l1 : (t.getD r []).length ≤ cr) (l2 : (t.getD k []).length ≤ ck) :
    Tab ((W.setCell ⟨g, r, none⟩ (.slice (some ⟨bs.getD k 0, 0, none⟩) (t.getD k []).length ck)).setCell ⟨g, k, none⟩ (.slice (some ⟨bs.getD r 0, 0, none⟩) (t.getD r []).length cr)) base g
      ((bs.set r (bs.getD k 0)).set k (bs.getD r 0)) ((t.set r (t.getD k [])).set k (t.getD r [])) := by
  have eb : ∀ i, ((bs.set r (bs.getD k 0)).set k (bs.getD r 0)).getD i 0 = if k = i then bs.getD r 0 else if r = i then bs.getD k 0 else bs.getD i 0 := fun i => by
    rw [getD_set_nat, getD_set_nat, List.length_set]
    by_cases e : k = i
    · rw [if_pos ⟨e, by omega⟩, if_pos e]
    · rw [if_neg (fun h' => e h'.1), if_neg e]
      by_cases e2 : r = i
      · rw [if_pos ⟨e2, by omega⟩, if_pos e2]
      · rw [if_neg (fun h' => e2 h'.1), if_neg e2]
  have et : ∀ i, ((t.set r (t.getD k [])).set k (t.getD r [])).getD i [] = if k = i then t.getD r [] else if r = i then t.getD k [] else t.getD i [] := fun i => by
    rw [getD_set_row (by simpa using hk), getD_set_row hr]
  refine ⟨h.geg, fun i hi => ?_, fun i hi => ?_, fun i j hi hj => ?_, fun i hi => ?_, fun i hi => ?_⟩
  · simp only [List.length_set] at hi
    rw [eb]; split
    · exact h.ge r hr
    · split
      · exact h.ge k hk
      · exact h.ge i hi
  · simp only [List.length_set] at hi
    rw [eb]; split
    · exact h.ne r hr
    · split
      · exact h.ne k hk
      · exact h.ne i hi
  · simp only [List.length_set] at hi hj
    rw [eb, eb]; intro e
    by_cases e1 : k = i <;> by_cases e2 : k = j
    · omega
    · rw [if_pos e1, if_neg e2] at e
      by_cases e3 : r = j
      · rw [if_pos e3] at e
        have := h.inj r k hr hk e; omega
      · rw [if_neg e3] at e
        have := h.inj r j hr hj e; omega
    · rw [if_neg e1, if_pos e2] at e
      by_cases e3 : r = i
      · rw [if_pos e3] at e
        have := h.inj k r hk hr e; omega
      · rw [if_neg e3] at e
        have := h.inj i r hi hr e; omega
    · rw [if_neg e1, if_neg e2] at e
      by_cases e3 : r = i <;> by_cases e4 : r = j
      · omega
      · rw [if_pos e3, if_neg e4] at e
        have := h.inj k j hk hj e; omega
      · rw [if_neg e3, if_pos e4] at e
        have := h.inj i k hi hk e; omega
      · rw [if_neg e3, if_neg e4] at e
        exact h.inj i j hi hj e
  · simp only [List.length_set] at hi
    rw [eb, et]; refine ⟨?_, by rw [World.frozen?_setCell, World.frozen?_setCell]; exact (h.main i hi).2⟩
    by_cases e : k = i
    · subst e
      rw [if_pos rfl, if_pos rfl]; refine ⟨cr, l1, World.cell?_setCell_same' _ _ _ ?_⟩
      by_cases e2 : r = k
      · subst e2
        rw [World.cell?_setCell_same' _ _ _ (by rw [h1]; rfl)]; rfl
      · rw [World.cell?_setCell_other W ⟨g, r, none⟩ ⟨g, k, none⟩ _ (by intro e3; injection e3 with _ e3; exact e2 e3), h2]; rfl
    · rw [if_neg e, if_neg e]
      by_cases e2 : r = i
      · subst e2
        rw [if_pos rfl, if_pos rfl]; exact ⟨ck, l2, (World.cell?_setCell_other _ ⟨g, k, none⟩ ⟨g, r, none⟩ _ (by intro e3; injection e3 with _ e3; exact e e3)).trans (World.cell?_setCell_same' _ _ _ (by rw [h1]; rfl))⟩
      · rw [if_neg e2, if_neg e2]
        obtain ⟨⟨c, h3, h4⟩, _⟩ := h.main i hi; exact ⟨c, h3, (World.cell?_setCell_other _ ⟨g, k, none⟩ ⟨g, i, none⟩ _ (by intro e3; injection e3 with _ e3; exact e e3)).trans ((World.cell?_setCell_other W ⟨g, r, none⟩ ⟨g, i, none⟩ _ (by intro e3; injection e3 with _ e3; exact e2 e3)).trans h4)⟩
  · simp only [List.length_set] at hi
    rw [eb, et]
    have hm : ∀ m xs, m < t.length → RowAt W (bs.getD m 0) xs → RowAt ((W.setCell ⟨g, r, none⟩ (.slice (some ⟨bs.getD k 0, 0, none⟩) (t.getD k []).length ck)).setCell ⟨g, k, none⟩ (.slice (some ⟨bs.getD r 0, 0, none⟩) (t.getD r []).length cr)) (bs.getD m 0) xs := fun m xs hm hx =>
      hx.move fun j v hv => ⟨(World.cell?_setCell_far _ ⟨g, k, none⟩ ⟨bs.getD m 0, j, none⟩ _ (fun e => h.ne m hm e.symm)).trans ((World.cell?_setCell_far W ⟨g, r, none⟩ ⟨bs.getD m 0, j, none⟩ _ (fun e => h.ne m hm e.symm)).trans hv), by rw [World.frozen?_setCell, World.frozen?_setCell]⟩
    by_cases e : k = i
    · rw [if_pos e, if_pos e]; exact hm r _ hr (h.rows r hr)
    · rw [if_neg e, if_neg e]
      by_cases e2 : r = i
      · rw [if_pos e2, if_pos e2]; exact hm k _ hk (h.rows k hk)
      · rw [if_neg e2, if_neg e2]; exact hm i _ hi (h.rows i hi)
structure Chg (S : Nat → Prop) (w W : World) : Prop where
  os : W.os = w.os
  tape : W.tape = w.tape
  output : W.output = w.output
  size : w.heap.size ≤ W.heap.size
  block : ∀ k, k < w.heap.size → ¬ S k → W.heap[k]? = w.heap[k]?
theorem Chg.refl (S : Nat → Prop) (w : World) : Chg S w w := ⟨rfl, rfl, rfl, Nat.le_refl _, fun _ _ _ => rfl⟩
theorem Chg.trans {S S2 : Nat → Prop} {w W W' : World} (h : Chg S w W) (h2 : Chg S2 W W') (hs : ∀ k, k < w.heap.size → S2 k → S k) : Chg S w W' :=
  ⟨h2.os.trans h.os, h2.tape.trans h.tape, h2.output.trans h.output, Nat.le_trans h.size h2.size, fun k hk hn => (h2.block k (Nat.lt_of_lt_of_le hk h.size) (fun e => hn (hs k hk e))).trans (h.block k hk hn)⟩
theorem Chg.mono {S S2 : Nat → Prop} {w W : World} (h : Chg S w W) (hs : ∀ k, S k → S2 k) : Chg S2 w W := ⟨h.os, h.tape, h.output, h.size, fun k hk hn => h.block k hk (fun e => hn (hs k e))⟩
theorem Chg.of_below {S : Nat → Prop} {w W : World} (h : Below w.heap.size w W) : Chg S w W := ⟨h.os, h.tape, h.output, h.size, fun k hk _ => h.block k hk⟩
theorem Chg.then_below {S : Nat → Prop} {w W W' : World} (h : Chg S w W) (hb : Below W.heap.size W W') : Chg S w W' := h.trans (Chg.of_below (S := S) hb) (fun _ _ e => e)
theorem Chg.then_grown {S : Nat → Prop} {w W W' : World} (h : Chg S w W) {row : Option Nat} (hg : W.grownBy W' row) (hr : ∀ k, row = some k → S k ∨ w.heap.size ≤ k) : Chg S w W' :=
  ⟨hg.os.trans h.os, hg.tape.trans h.tape, hg.output.trans h.output, Nat.le_trans h.size hg.size, fun k hk hn => (hg.block k (Nat.lt_of_lt_of_le hk h.size) (fun e => by rcases hr k e.symm with h1 | h1; exact hn h1; omega)).trans (h.block k hk hn)⟩
theorem Chg.then_set {S : Nat → Prop} {w W : World} (h : Chg S w W) {b j : Nat} (hb : S b ∨ w.heap.size ≤ b) (v : Value) : Chg S w (W.setCell ⟨b, j, none⟩ v) :=
  ⟨h.os, h.tape, h.output, by rw [World.size_setCell]; exact h.size, fun k hk hn => (Below.heap_setCell W ⟨b, j, none⟩ v k (fun e => by
    rcases hb with h1 | h1
    · exact hn (by rw [e]; exact h1)
    · simp only at e; omega)).trans (h.block k hk hn)⟩
theorem Chg.then_alloc {S : Nat → Prop} {w W : World} (h : Chg S w W) (o : Obj) : Chg S w (W.alloc o) := h.then_grown (World.grownBy_alloc W o none) (fun k e => by cases e)
theorem Chg.below {S : Nat → Prop} {w W : World} (h : Chg S w W) {base : Nat} (hb : base ≤ w.heap.size) (hs : ∀ k, S k → base ≤ k) : Below base w W :=
  ⟨h.os, h.tape, h.output, h.size, fun k hk => h.block k (by omega) (fun e => by have := hs k e; omega)⟩
theorem Chg.cell {S : Nat → Prop} {w W : World} (h : Chg S w W) {a : Addr} (ha : a.block < w.heap.size) (hn : ¬ S a.block) : W.cell? a = w.cell? a ∧ W.frozen? a = w.frozen? a :=
  ⟨World.cell?_of_block (h.block _ ha hn), World.frozen?_of_block (h.block _ ha hn)⟩
theorem Bx.chg {S : Nat → Prop} {w W : World} {b : Nat} {v : Value} (hx : Bx w b v) (h : Chg S w W) (hn : ¬ S b) : Bx W b v :=
  ⟨(h.cell (a := ⟨b, 0, none⟩) hx.lt hn).1.trans hx.1, (h.cell (a := ⟨b, 0, none⟩) hx.lt hn).2.trans hx.2⟩
end Go.Proofs.Ytdbamhckgaoibaa.P
namespace Go.Proofs.Ytdbamhckgaoibaa.P
open Go.RowKit Go.ChangeShapes Go.WideShapes Go.Deep Go.Proofs.YtdbamhckgaoibaaW.PrintWords Go.Proofs.YtdbamhckgaoibaaW.PrintLast Go.Proofs.YtdbamhckgaoibaaW.PrintMore
set_option linter.unusedVariables false
structure Opens (P : Program) {α : Type} (d : Kd α) (t : TypeId) (ok : α → Prop) : Prop where
  out : ∀ (H : Type) (enc : TypeId × Value → H) (w : World) (base : Nat) (spare : Nat → Bool) (held : Bool) (fuel : Nat) (cs : List Value) (x : DataW H × List MemPlace),
    DataW.trod enc P w base spare held fuel t cs = some x → ∃ v, d.K w v cs ∧ ok v
theorem opens_int {P : Program} {t : TypeId} {k : IntKind} (ht : P.underlying t = some (.int k)) : Opens P (Kd.int k) t (fun n => (Lit.int k n).wf = true) := by
  refine ⟨fun H enc w base spare held fuel cs x h => ?_⟩; obtain ⟨n, rfl, _, hw⟩ := DataW.trod_int ht h; exact ⟨n, rfl, hw⟩
theorem choose_list {α : Type} {p : Nat → α → Prop} : ∀ {n : Nat}, (∀ i, i < n → ∃ x, p i x) → ∃ l : List α, l.length = n ∧ ∀ i (hi : i < l.length), p i l[i]
  | 0, _ => ⟨[], rfl, fun i hi => absurd hi (Nat.not_lt_zero i)⟩
  | n + 1, h => by
    obtain ⟨l, hl, hp⟩ := choose_list (n := n) (fun i hi => h i (by omega)); obtain ⟨x, hx⟩ := h n (by omega); refine ⟨l ++ [x], by simp [hl], fun i hi => ?_⟩; rw [List.length_append, List.length_singleton] at hi
    by_cases e : i < l.length
    · rw [List.getElem_append_left e]; exact hp i e
    · obtain rfl : i = n := by omega
      rw [List.getElem_append_right (by omega)]
      simpa using hx
def AllOk {α : Type} (ok : α → Prop) (l : List α) : Prop := l.length ≤ maxLen ∧ ∀ x ∈ l, ok x
theorem opens_slice {P : Program} {α : Type} {d : Kd α} {t e : TypeId} {ok : α → Prop} (q : Nat) (ht : P.underlying t = some (.slice e)) (he : P.cellsOf e = d.sz) (ho : Opens P d e ok) : Opens P (Kd.slice q d) t (AllOk ok) := by
  refine ⟨fun H enc w base spare held fuel cs x h => ?_⟩
  rcases open_slice ht h with ⟨rfl, _⟩ | ⟨a, len, cap, m, n, D, Pl, rfl, hb, hl, hm, hmm, _, hx⟩
  · exact ⟨[], ⟨none, 0, rfl, Nat.le_refl _, rfl, Nat.zero_le _, fun h => absurd h (by simp)⟩, Nat.zero_le _, fun _ h => by cases h⟩
  · have hle : len ≤ m := by rw [hmm]; split <;> omega
    have each : ∀ i, i < len → ∃ y : α × List Value, d.K w y.1 y.2 ∧ ok y.1 ∧ y.2.length = d.sz ∧ ∀ j u, y.2[j]? = some u → w.cell? (a.add (i * d.sz + j)) = some u := by
      intro i hi; obtain ⟨cs', h1, h2⟩ := hx i (by omega); obtain ⟨v, hv, hk⟩ := ho.out H enc w base spare held n cs' _ h2; refine ⟨(v, cs'), hv, hk, d.K_len hv, fun j u hu => ?_⟩; obtain ⟨_, hlen, hcell⟩ := World.cells?_some h1; have hj : j < cs'.length := (List.getElem?_eq_some_iff.1 hu).1; have := hcell j (by omega); rw [Go.Deep.add_add, he] at this
      rw [this]; exact hu
    obtain ⟨y, hyl, hy⟩ := choose_list each; have hlm : len ≤ maxLen := Nat.le_trans hl hm
    have h9 : maxLen ≤ 9223372036854775807 := by decide
    have hyn : (y.map (·.1)).length = len := by rw [List.length_map, hyl]
    refine ⟨y.map (·.1), ⟨some a, cap, by rw [hyn], by omega, ⟨rfl, by rw [hyn]; exact Nat.le_trans hlm h9, fun _ => ⟨a, rfl, ?_⟩⟩⟩, by rw [hyn]; exact hlm, ?_⟩
    · intro j p hj
      obtain ⟨hjl, hp⟩ := List.getElem?_eq_some_iff.1 hj; rw [List.length_map] at hjl; rw [List.getElem_map] at hp; subst hp; have := hy j hjl; exact ⟨y[j].2, this.2.2.1, this.1, this.2.2.2⟩
    · intro v hv
      obtain ⟨z, hz, rfl⟩ := List.mem_map.1 hv; obtain ⟨i, hi, rfl⟩ := List.getElem_of_mem hz; exact (hy i hi).2.1
theorem opens_two {P : Program} {α β γ : Type} {a : Kd α} {b : Kd β} {d : Kd γ} {t : TypeId} {f0 f1 : Field} {oa : α → Prop} {ob : β → Prop} {oc : γ → Prop} (mk : α → β → γ) (ht : P.underlying t = some (.struct #[f0, f1]))
    (h0 : f0.offset = 0) (h1 : f1.offset = a.sz) (s0 : P.cellsOf f0.type = a.sz) (s1 : P.cellsOf f1.type = b.sz) (st : P.cellsOf t = a.sz + b.sz) (ho0 : Opens P a f0.type oa) (ho1 : Opens P b f1.type ob)
    (hd : ∀ w x y c0 c1, a.K w x c0 → b.K w y c1 → d.K w (mk x y) (c0 ++ c1)) (hok : ∀ x y, oa x → ob y → oc (mk x y)) : Opens P d t oc := by
  refine ⟨fun H enc w base spare held fuel cs x h => ?_⟩; obtain ⟨y0, y1, n, _, hl, g0, g1⟩ := trod_struct2 ht h; obtain ⟨v0, k0, o0⟩ := ho0.out _ _ _ _ _ _ _ _ _ g0; obtain ⟨v1, k1, o1⟩ := ho1.out _ _ _ _ _ _ _ _ _ g1; refine ⟨mk v0 v1, ?_, hok _ _ o0 o1⟩; have := hd _ _ _ _ _ k0 k1; rw [h0, h1, s0, s1, List.drop_zero] at this
  have e : List.take a.sz cs ++ List.take b.sz (List.drop a.sz cs) = cs := by
    rw [← List.take_add, ← st, ← hl, List.take_length]
  rw [e] at this; exact this
theorem opened {P : Program} {α : Type} {d : Kd α} {t e : TypeId} {ok : α → Prop} {H : Type} {enc : TypeId × Value → H} {w : World} {base : Nat} {spare : Nat → Bool} {held : Bool} {v : Value} {x : DataW H} {p : List MemPlace} {r : Reach} {b : Nat} (q : Nat) (ht : P.underlying t = some (.slice e)) (he : P.cellsOf e = d.sz)
    (ho : Opens P d e ok) (hv : Value.okWide P w r b t v) (h : DataW.Trod enc P w base spare held t v x p) : ∃ A c l, v = .slice A l.length c ∧ l.length ≤ c ∧ Kd.C d w A l.length l ∧ AllOk ok l := by
  obtain ⟨A, n, c, rfl⟩ := okWide_slice ht hv; obtain ⟨fuel, hf⟩ := h; obtain ⟨l, ⟨A', c', h1, h2, h3⟩, h4⟩ := (opens_slice q ht he ho).out _ _ _ _ _ _ _ _ _ hf
  simp [Value.cells] at h1
  obtain ⟨rfl, rfl, rfl⟩ := h1; exact ⟨_, _, l, rfl, h2, h3, h4⟩
theorem opened_agg {P : Program} {α : Type} {d : Kd α} {t : TypeId} {fs : Array Field} {ok : α → Prop} {H : Type} {enc : TypeId × Value → H} {w : World} {base : Nat} {spare : Nat → Bool} {held : Bool} {v : Value} {x : DataW H} {p : List MemPlace} {r : Reach} {b : Nat} (ht : P.underlying t = some (.struct fs))
    (ho : Opens P d t ok) (hv : Value.okWide P w r b t v) (h : DataW.Trod enc P w base spare held t v x p) : ∃ cs y, v = .agg cs ∧ d.K w y cs.toList ∧ ok y := by
  obtain ⟨cs, rfl, _⟩ := okWide_struct ht hv; obtain ⟨fuel, hf⟩ := h; obtain ⟨y, h1, h2⟩ := ho.out _ _ _ _ _ _ _ _ _ hf; exact ⟨cs, y, rfl, h1, h2⟩
end Go.Proofs.Ytdbamhckgaoibaa.P
namespace Go.Proofs.Ytdbamhckgaoibaa.P
open Go.RowKit Go.ChangeShapes Go.WideShapes Go.Deep Go.Proofs.YtdbamhckgaoibaaW.PrintWords Go.Proofs.YtdbamhckgaoibaaW.PrintLast Go.Proofs.YtdbamhckgaoibaaW.PrintMore
def wfI (n : Int) : Prop := (Lit.int .i64 n).wf = true
theorem opI : Opens Try.prog (Kd.int .i64) 3 wfI := opens_int Try.underlying3
theorem opIs : Opens Try.prog (Kd.slice 3 (Kd.int .i64)) 23 (AllOk wfI) := opens_slice _ Try.underlying23 (by kernel_rfl) opI
theorem opRows : Opens Try.prog (Kd.slice 23 (Kd.slice 3 (Kd.int .i64))) 22 (AllOk (AllOk wfI)) := opens_slice _ Try.underlying22 (by kernel_rfl) opIs
def kProg : Kd (List (List Int) × List Int) := Kd.pair (Kd.slice 23 (Kd.slice 3 (Kd.int .i64))) (Kd.slice 3 (Kd.int .i64))
def ProgOk (p : List (List Int) × List Int) : Prop := AllOk (AllOk wfI) p.1 ∧ AllOk wfI p.2
theorem opProg : Opens Try.prog kProg 25 ProgOk :=
  opens_two Prod.mk Try.underlying25 rfl rfl (by kernel_rfl) (by kernel_rfl) (by kernel_rfl) opRows opIs (fun _ _ _ c0 c1 h0 h1 => ⟨c0, c1, rfl, h0, h1⟩) (fun _ _ h0 h1 => ⟨h0, h1⟩)
def ShareOk (s : S38) : Prop := wfI s.f0 ∧ wfI s.f1
theorem opShare : Opens Try.prog k38 38 ShareOk :=
  opens_two S38.mk Try.underlying38 rfl rfl (by kernel_rfl) (by kernel_rfl) (by kernel_rfl) opI opI (fun _ _ _ c0 c1 h0 h1 => ⟨c0, c1, rfl, h0, h1⟩) (fun _ _ h0 h1 => ⟨h0, h1⟩)
theorem agg_of {cs : Array Value} {l : List Value} (h : cs.toList = l) : cs = l.toArray := by
  cases cs; exact congrArg List.toArray h
set_option maxRecDepth 100000 in
theorem opened_prog {H : Type} {enc : TypeId × Value → H} {w : World} {base : Nat} {spare : Nat → Bool} {held : Bool} {v : Value} {x : DataW H} {p : List MemPlace} {r : Reach} {b : Nat} (hv : Value.okWide Try.prog w r b 25 v) (h : DataW.Trod enc Try.prog w base spare held 25 v x p) :
    ∃ A c l A1 c1 l1, v = .agg #[.slice A l.length c, .slice A1 l1.length c1] ∧ l.length ≤ c ∧ Kd.C (Kd.slice 3 (Kd.int .i64)) w A l.length l ∧ AllOk (AllOk wfI) l ∧ l1.length ≤ c1 ∧ Kd.C (Kd.int .i64) w A1 l1.length l1 ∧ AllOk wfI l1 := by
  obtain ⟨cs, y, e, hk, hp⟩ := opened_agg Try.underlying25 opProg hv h; clear hv h; obtain ⟨c0, c1, hcs, ⟨A, c, e0, h1, h2⟩, ⟨A1, c2, e1, h3, h4⟩⟩ := hk; rw [e0, e1] at hcs; rw [e, agg_of hcs]; exact ⟨A, c, y.1, A1, c2, y.2, rfl, h1, h2, hp.1, h3, h4, hp.2⟩
end Go.Proofs.Ytdbamhckgaoibaa.P
namespace Go.Proofs.Ytdbamhckgaoibaa.P
open Go.RowKit Go.Proofs.YtdbamhckgaoibaaW.PrintWords Go.Proofs.YtdbamhckgaoibaaW.PrintLast Go.Proofs.YtdbamhckgaoibaaW.PrintMore
attribute [local go_sem] max2_int min2_int max_two min_two max_three min_three max_four min_four
set_option linter.unusedVariables false
set_option linter.unusedSimpArgs false
def signatoryref09_Mod.f (a0 : Int) : Option (Int) := if (Int.tmod a0 1073741789) < 0 then (some (wrap64 ((Int.tmod a0 1073741789) + 1073741789))) else (some (Int.tmod a0 1073741789))
set_option maxHeartbeats 8000000 in
set_option maxRecDepth 100000 in
theorem signatoryref09_Mod.calls (a0 : Int) (r : Int) (w : World) (h : signatoryref09_Mod.f a0 = some r) :
  Calls Try.prog 195 #[.int .i64 a0] w fun e w' => e = .returned (.int .i64 r) ∧ Drawn0 w w' := by
 have H : (if (Int.tmod a0 1073741789) < 0 then (some (wrap64 ((Int.tmod a0 1073741789) + 1073741789))) else (some (Int.tmod a0 1073741789))) = some r := h; clear h
 by_cases c2 : (Int.tmod a0 1073741789) < 0
 ·rw [if_pos c2] at H
  have c2b0 : decide ((Int.tmod a0 1073741789) < 0) = true := decide_eq_true c2; clear c2; obtain rfl := Option.some.inj H
  go_enter Try.func195, Try.ntmps195
  go_wp2
  go_ret
  exact ⟨rf_, dr_⟩
 ·rw [if_neg c2] at H
  have c2b0 : decide ((Int.tmod a0 1073741789) < 0) = false := decide_eq_false c2; clear c2; obtain rfl := Option.some.inj H
  go_enter Try.func195, Try.ntmps195
  go_wp2
  go_ret
  exact ⟨rf_, dr_⟩
def signatoryref09_Add.f (a0 : Int) (a1 : Int) : Option (Int) := (signatoryref09_Mod.f a0).bind fun t178 => ((signatoryref09_Mod.f a1).bind fun t179 => (some (Int.tmod (wrap64 (t178 + t179)) 1073741789)))
set_option maxHeartbeats 8000000 in
set_option maxRecDepth 100000 in
theorem signatoryref09_Add.calls (a0 : Int) (a1 : Int) (r : Int) (w : World) (h : signatoryref09_Add.f a0 a1 = some r) :
  Calls Try.prog 166 #[.int .i64 a0, .int .i64 a1] w fun e w' => e = .returned (.int .i64 r) ∧ Drawn0 w w' := by
 have H : ((signatoryref09_Mod.f a0).bind fun t178 => ((signatoryref09_Mod.f a1).bind fun t179 => (some (Int.tmod (wrap64 (t178 + t179)) 1073741789)))) = some r := h; clear h; replace H := Option.bind_eq_some_iff.mp H; obtain ⟨t178, A30, H⟩ := H; replace H : ((signatoryref09_Mod.f a1).bind fun t179 => (some (Int.tmod (wrap64 (t178 + t179)) 1073741789))) = some r := H; have A3 := Aside0.mk A30; clear A30; replace H := Option.bind_eq_some_iff.mp H; obtain ⟨t179, A40, H⟩ := H; replace H : (some (Int.tmod (wrap64 (t178 + t179)) 1073741789)) = some r := H; have A4 := Aside0.mk A40; clear A40; obtain rfl := Option.some.inj H
 go_enter Try.func166, Try.ntmps166
 go_wp2_with (first | ((with_reducible refine gate_callee (f := 195) rfl ?_); refine goesL_ (some 6) rfl rfl Try.func195 (by kernel_rfl) rfl #[.int .i64 a0] rfl mp_ ?_; (with_reducible refine (signatoryref09_Mod.calls a0 t178 _ A3.out).mono ?_); rintro e w' ⟨rfl, ⟨nd, rfl⟩⟩; refine ⟨_, rfl, ?_⟩) | ((with_reducible refine gate_callee (f := 195) rfl ?_); refine goesL_ (some 8) rfl rfl Try.func195 (by kernel_rfl) rfl #[.int .i64 a1] rfl mp_ ?_; (with_reducible refine (signatoryref09_Mod.calls a1 t179 _ A4.out).mono ?_); rintro e w' ⟨rfl, ⟨nd, rfl⟩⟩; refine ⟨_, rfl, ?_⟩))
 go_ret
 exact ⟨rf_, dr_⟩
def signatoryref09_Mul.f (a0 : Int) (a1 : Int) : Option (Int) := (signatoryref09_Mod.f a0).bind fun t180 => ((signatoryref09_Mod.f a1).bind fun t181 => (some (Int.tmod (wrap64 (t180 * t181)) 1073741789)))
set_option maxHeartbeats 8000000 in
set_option maxRecDepth 100000 in
theorem signatoryref09_Mul.calls (a0 : Int) (a1 : Int) (r : Int) (w : World) (h : signatoryref09_Mul.f a0 a1 = some r) :
  Calls Try.prog 167 #[.int .i64 a0, .int .i64 a1] w fun e w' => e = .returned (.int .i64 r) ∧ Drawn0 w w' := by
 have H : ((signatoryref09_Mod.f a0).bind fun t180 => ((signatoryref09_Mod.f a1).bind fun t181 => (some (Int.tmod (wrap64 (t180 * t181)) 1073741789)))) = some r := h; clear h; replace H := Option.bind_eq_some_iff.mp H; obtain ⟨t180, A30, H⟩ := H; replace H : ((signatoryref09_Mod.f a1).bind fun t181 => (some (Int.tmod (wrap64 (t180 * t181)) 1073741789))) = some r := H; have A3 := Aside0.mk A30; clear A30; replace H := Option.bind_eq_some_iff.mp H; obtain ⟨t181, A40, H⟩ := H; replace H : (some (Int.tmod (wrap64 (t180 * t181)) 1073741789)) = some r := H; have A4 := Aside0.mk A40; clear A40; obtain rfl := Option.some.inj H
 go_enter Try.func167, Try.ntmps167
 go_wp2_with (first | ((with_reducible refine gate_callee (f := 195) rfl ?_); refine goesL_ (some 6) rfl rfl Try.func195 (by kernel_rfl) rfl #[.int .i64 a0] rfl mp_ ?_; (with_reducible refine (signatoryref09_Mod.calls a0 t180 _ A3.out).mono ?_); rintro e w' ⟨rfl, ⟨nd, rfl⟩⟩; refine ⟨_, rfl, ?_⟩) | ((with_reducible refine gate_callee (f := 195) rfl ?_); refine goesL_ (some 8) rfl rfl Try.func195 (by kernel_rfl) rfl #[.int .i64 a1] rfl mp_ ?_; (with_reducible refine (signatoryref09_Mod.calls a1 t181 _ A4.out).mono ?_); rintro e w' ⟨rfl, ⟨nd, rfl⟩⟩; refine ⟨_, rfl, ?_⟩))
 go_ret
 exact ⟨rf_, dr_⟩
def signatoryref09_power.l0 : Nat → Int → Int → Int → Option (Int)
 | 0, _, _, _ => none
 | k + 1, x0, x1, x5 => if x1 > 0 then (if (Int.tmod x1 2) = 1 then ((signatoryref09_Mul.f x5 x0).bind fun t182 => ((signatoryref09_Mul.f x0 x0).bind fun t183 => (signatoryref09_power.l0 k t183 (wrap64 (Int.tdiv x1 2)) t182))) else ((signatoryref09_Mul.f x0 x0).bind fun t184 => (signatoryref09_power.l0 k t184 (wrap64 (Int.tdiv x1 2)) x5))) else (some x5)
def signatoryref09_power.f (k : Nat) (a0 : Int) (a1 : Int) : Option (Int) := signatoryref09_power.l0 k a0 a1 1
set_option maxHeartbeats 8000000 in
set_option maxRecDepth 100000 in
theorem signatoryref09_power.calls (k : Nat) (a0 : Int) (a1 : Int) (r : Int) (w : World) (h : signatoryref09_power.f k a0 a1 = some r) :
  Calls Try.prog 207 #[.int .i64 a0, .int .i64 a1] w fun e w' => e = .returned (.int .i64 r) ∧ Drawn0 w w' := by
 have H : (signatoryref09_power.l0 k a0 a1 1) = some r := h; clear h; have H' := Aside0.mk H; clear H
 go_enter Try.func207, Try.ntmps207
 go_wp2
 go_loopg [0, 1, 5] k (fun kq v0 v1 v5 w' => ∃ (x0_1 : Int) (x1_1 : Int) (x5_1 : Int), v0 = .int .i64 x0_1 ∧ v1 = .int .i64 x1_1 ∧ v5 = .int .i64 x5_1 ∧ Aside0 (signatoryref09_power.l0 kq x0_1 x1_1 x5_1 = some r) ∧ Aside0 (kq ≤ k) ∧ Drawn0 w w')
 case atStart => exact ⟨(a0), (a1), (1), rf_, rf_, rf_, H', ⟨Nat.le_refl _⟩, dr_⟩
 case round =>
  clear H'; (try clear c2); (try clear p2); obtain ⟨x0_1, x1_1, x5_1, rfl, rfl, rfl, HA, HK1, ⟨m1, rfl⟩⟩ := hrel
  cases gk with
  | zero => exact absurd HA.out (by simp [signatoryref09_power.l0])
  | succ k1 =>
   have H := HA.out; clear HA; simp only [signatoryref09_power.l0] at H
   by_cases c3 : x1_1 > 0
   ·rw [if_pos c3] at H
    have c3b0 : decide (0 < x1_1) = true := decide_eq_true c3; clear c3
    by_cases c4 : (Int.tmod x1_1 2) = 1
    ·rw [if_pos c4] at H
     have c4b0 : ((Int.tmod x1_1 2) == 1) = true := beq_iff_eq.mpr c4; have c4b1 : ((Int.tmod x1_1 2) != 1) = false := bne_eq_false_iff_eq.mpr c4; clear c4; replace H := Option.bind_eq_some_iff.mp H; obtain ⟨t182, A50, H⟩ := H; replace H : ((signatoryref09_Mul.f x0_1 x0_1).bind fun t183 => (signatoryref09_power.l0 k1 t183 (wrap64 (Int.tdiv x1_1 2)) t182)) = some r := H; have A5 := Aside0.mk A50; clear A50; replace H := Option.bind_eq_some_iff.mp H; obtain ⟨t183, A60, H⟩ := H; replace H : (signatoryref09_power.l0 k1 t183 (wrap64 (Int.tdiv x1_1 2)) t182) = some r := H; have A6 := Aside0.mk A60; clear A60; have H' := Aside0.mk H; clear H; go_wp2_with (first | ((with_reducible refine gate_callee (f := 167) rfl ?_); refine goesL_ (some 13) rfl rfl Try.func167 (by kernel_rfl) rfl #[.int .i64 x5_1, .int .i64 x0_1] rfl mp_ ?_; (with_reducible refine (signatoryref09_Mul.calls x5_1 x0_1 t182 _ A5.out).mono ?_); rintro e w' ⟨rfl, ⟨nd, rfl⟩⟩; refine ⟨_, rfl, ?_⟩) | ((with_reducible refine gate_callee (f := 167) rfl ?_); refine goesL_ (some 16) rfl rfl Try.func167 (by kernel_rfl) rfl #[.int .i64 x0_1, .int .i64 x0_1] rfl mp_ ?_; (with_reducible refine (signatoryref09_Mul.calls x0_1 x0_1 t183 _ A6.out).mono ?_); rintro e w' ⟨rfl, ⟨nd, rfl⟩⟩; refine ⟨_, rfl, ?_⟩))
     go_roundg k1
     case measure => have := HK1.out; omega
     case rel => exact ⟨(t183), (wrap64 (Int.tdiv x1_1 2)), (t182), rf_, rf_, rf_, H', ⟨by have := HK1.out; omega⟩, dr_⟩
    ·rw [if_neg c4] at H
     have c4b0 : ((Int.tmod x1_1 2) == 1) = false := beq_eq_false_iff_ne.mpr c4; have c4b1 : ((Int.tmod x1_1 2) != 1) = true := bne_iff_ne.mpr c4; replace H := Option.bind_eq_some_iff.mp H; obtain ⟨t184, A70, H⟩ := H; replace H : (signatoryref09_power.l0 k1 t184 (wrap64 (Int.tdiv x1_1 2)) x5_1) = some r := H; have A7 := Aside0.mk A70; clear A70; have H' := Aside0.mk H; clear H; go_wp2_with (first | ((with_reducible refine gate_callee (f := 167) rfl ?_); refine goesL_ (some 16) rfl rfl Try.func167 (by kernel_rfl) rfl #[.int .i64 x0_1, .int .i64 x0_1] rfl mp_ ?_; (with_reducible refine (signatoryref09_Mul.calls x0_1 x0_1 t184 _ A7.out).mono ?_); rintro e w' ⟨rfl, ⟨nd, rfl⟩⟩; refine ⟨_, rfl, ?_⟩))
     go_roundg k1
     case measure => have := HK1.out; omega
     case rel => exact ⟨(t184), (wrap64 (Int.tdiv x1_1 2)), (x5_1), rf_, rf_, rf_, H', ⟨by have := HK1.out; omega⟩, dr_⟩
   ·rw [if_neg c3] at H
    have c3b0 : decide (0 < x1_1) = false := decide_eq_false c3; clear c3; obtain rfl := Option.some.inj H; go_wp2
    go_ret
    exact ⟨rf_, dr_⟩
def signatoryref09_Inverse.f (k : Nat) (a0 : Int) : Option (Int × Int) := (signatoryref09_Mod.f a0).bind fun t185 => (if t185 = 0 then (some (0, 90)) else ((signatoryref09_power.f k a0 1073741787).bind fun t186 => (some (t186, 0))))
set_option maxHeartbeats 8000000 in
set_option maxRecDepth 100000 in
theorem signatoryref09_Inverse.calls (k : Nat) (a0 : Int) (r1 : Int) (r2 : Int) (w : World) (h : signatoryref09_Inverse.f k a0 = some (r1, r2)) :
  Calls Try.prog 200 #[.int .i64 a0] w fun e w' => e = .returned (.tuple #[.int .i64 r1, .int .i64 r2]) ∧ Drawn0 w w' := by
 have H : ((signatoryref09_Mod.f a0).bind fun t185 => (if t185 = 0 then (some (0, 90)) else ((signatoryref09_power.f k a0 1073741787).bind fun t186 => (some (t186, 0))))) = some (r1, r2) := h; clear h; replace H := Option.bind_eq_some_iff.mp H; obtain ⟨t185, A20, H⟩ := H; replace H : (if t185 = 0 then (some (0, 90)) else ((signatoryref09_power.f k a0 1073741787).bind fun t186 => (some (t186, 0)))) = some (r1, r2) := H; have A2 := Aside0.mk A20; clear A20
 by_cases c3 : t185 = 0
 ·rw [if_pos c3] at H
  have c3b0 : (t185 == 0) = true := beq_iff_eq.mpr c3; have c3b1 : (t185 != 0) = false := bne_eq_false_iff_eq.mpr c3; clear c3; simp only [Option.some.injEq, Prod.mk.injEq] at H; obtain ⟨rfl, rfl⟩ := H
  go_enter Try.func200, Try.ntmps200
  go_wp2_with (first | ((with_reducible refine gate_callee (f := 195) rfl ?_); refine goesL_ (some 5) rfl rfl Try.func195 (by kernel_rfl) rfl #[.int .i64 a0] rfl mp_ ?_; (with_reducible refine (signatoryref09_Mod.calls a0 t185 _ A2.out).mono ?_); rintro e w' ⟨rfl, ⟨nd, rfl⟩⟩; refine ⟨_, rfl, ?_⟩))
  go_ret2
  exact ⟨rf_, dr_⟩
 ·rw [if_neg c3] at H
  have c3b0 : (t185 == 0) = false := beq_eq_false_iff_ne.mpr c3; have c3b1 : (t185 != 0) = true := bne_iff_ne.mpr c3; replace H := Option.bind_eq_some_iff.mp H; obtain ⟨t186, A40, H⟩ := H; replace H : (some (t186, 0)) = some (r1, r2) := H; have A4 := Aside0.mk A40; clear A40; simp only [Option.some.injEq, Prod.mk.injEq] at H; obtain ⟨rfl, rfl⟩ := H
  go_enter Try.func200, Try.ntmps200
  go_wp2_with (first | ((with_reducible refine gate_callee (f := 195) rfl ?_); refine goesL_ (some 5) rfl rfl Try.func195 (by kernel_rfl) rfl #[.int .i64 a0] rfl mp_ ?_; (with_reducible refine (signatoryref09_Mod.calls a0 t185 _ A2.out).mono ?_); rintro e w' ⟨rfl, ⟨nd, rfl⟩⟩; refine ⟨_, rfl, ?_⟩) | ((with_reducible refine gate_callee (f := 207) rfl ?_); refine goesL_ (some 8) rfl rfl Try.func207 (by kernel_rfl) rfl #[.int .i64 a0, .int .i64 1073741787] rfl mp_ ?_; (with_reducible refine (signatoryref09_power.calls k a0 1073741787 t186 _ A4.out).mono ?_); rintro e w' ⟨rfl, ⟨nd, rfl⟩⟩; refine ⟨_, rfl, ?_⟩))
  go_ret2
  exact ⟨rf_, dr_⟩
def signatoryref10_exponent.f (a0 : Int) : Option (Int) := if (Int.tmod a0 1073741789) < 0 then (some (wrap64 ((Int.tmod a0 1073741789) + 1073741789))) else (some (Int.tmod a0 1073741789))
set_option maxHeartbeats 8000000 in
set_option maxRecDepth 100000 in
theorem signatoryref10_exponent.calls (a0 : Int) (r : Int) (w : World) (h : signatoryref10_exponent.f a0 = some r) :
  Calls Try.prog 197 #[.int .i64 a0] w fun e w' => e = .returned (.int .i64 r) ∧ Drawn0 w w' := by
 have H : (if (Int.tmod a0 1073741789) < 0 then (some (wrap64 ((Int.tmod a0 1073741789) + 1073741789))) else (some (Int.tmod a0 1073741789))) = some r := h; clear h
 by_cases c2 : (Int.tmod a0 1073741789) < 0
 ·rw [if_pos c2] at H
  have c2b0 : decide ((Int.tmod a0 1073741789) < 0) = true := decide_eq_true c2; clear c2; obtain rfl := Option.some.inj H
  go_enter Try.func197, Try.ntmps197
  go_wp2
  go_ret
  exact ⟨rf_, dr_⟩
 ·rw [if_neg c2] at H
  have c2b0 : decide ((Int.tmod a0 1073741789) < 0) = false := decide_eq_false c2; clear c2; obtain rfl := Option.some.inj H
  go_enter Try.func197, Try.ntmps197
  go_wp2
  go_ret
  exact ⟨rf_, dr_⟩
def signatoryref10_power.l0 : Nat → Int → Int → Int → Option (Int)
 | 0, _, _, _ => none
 | k + 1, x0, x1, x5 => if x1 > 0 then (if (Int.tmod x1 2) = 1 then (signatoryref10_power.l0 k (Int.tmod (wrap64 (x0 * x0)) 2147483579) (wrap64 (Int.tdiv x1 2)) (Int.tmod (wrap64 (x5 * x0)) 2147483579)) else (signatoryref10_power.l0 k (Int.tmod (wrap64 (x0 * x0)) 2147483579) (wrap64 (Int.tdiv x1 2)) x5)) else (some x5)
def signatoryref10_power.f (k : Nat) (a0 : Int) (a1 : Int) : Option (Int) := signatoryref10_power.l0 k a0 a1 1
set_option maxHeartbeats 8000000 in
set_option maxRecDepth 100000 in
theorem signatoryref10_power.calls (k : Nat) (a0 : Int) (a1 : Int) (r : Int) (w : World) (h : signatoryref10_power.f k a0 a1 = some r) :
  Calls Try.prog 196 #[.int .i64 a0, .int .i64 a1] w fun e w' => e = .returned (.int .i64 r) ∧ Drawn0 w w' := by
 have H : (signatoryref10_power.l0 k a0 a1 1) = some r := h; clear h; have H' := Aside0.mk H; clear H
 go_enter Try.func196, Try.ntmps196
 go_wp2
 go_loopg [0, 1, 5] k (fun kq v0 v1 v5 w' => ∃ (x0_1 : Int) (x1_1 : Int) (x5_1 : Int), v0 = .int .i64 x0_1 ∧ v1 = .int .i64 x1_1 ∧ v5 = .int .i64 x5_1 ∧ Aside0 (signatoryref10_power.l0 kq x0_1 x1_1 x5_1 = some r) ∧ Aside0 (kq ≤ k) ∧ Drawn0 w w')
 case atStart => exact ⟨(a0), (a1), (1), rf_, rf_, rf_, H', ⟨Nat.le_refl _⟩, dr_⟩
 case round =>
  clear H'; (try clear c1); (try clear p2); obtain ⟨x0_1, x1_1, x5_1, rfl, rfl, rfl, HA, HK1, ⟨m1, rfl⟩⟩ := hrel
  cases gk with
  | zero => exact absurd HA.out (by simp [signatoryref10_power.l0])
  | succ k1 =>
   have H := HA.out; clear HA; simp only [signatoryref10_power.l0] at H
   by_cases c3 : x1_1 > 0
   ·rw [if_pos c3] at H
    have c3b0 : decide (0 < x1_1) = true := decide_eq_true c3; clear c3
    by_cases c4 : (Int.tmod x1_1 2) = 1
    ·rw [if_pos c4] at H
     have c4b0 : ((Int.tmod x1_1 2) == 1) = true := beq_iff_eq.mpr c4; have c4b1 : ((Int.tmod x1_1 2) != 1) = false := bne_eq_false_iff_eq.mpr c4; clear c4; have H' := Aside0.mk H; clear H; go_wp2
     go_roundg k1
     case measure => have := HK1.out; omega
     case rel => exact ⟨(Int.tmod (wrap64 (x0_1 * x0_1)) 2147483579), (wrap64 (Int.tdiv x1_1 2)), (Int.tmod (wrap64 (x5_1 * x0_1)) 2147483579), rf_, rf_, rf_, H', ⟨by have := HK1.out; omega⟩, dr_⟩
    ·rw [if_neg c4] at H
     have c4b0 : ((Int.tmod x1_1 2) == 1) = false := beq_eq_false_iff_ne.mpr c4; have c4b1 : ((Int.tmod x1_1 2) != 1) = true := bne_iff_ne.mpr c4; have H' := Aside0.mk H; clear H; go_wp2
     go_roundg k1
     case measure => have := HK1.out; omega
     case rel => exact ⟨(Int.tmod (wrap64 (x0_1 * x0_1)) 2147483579), (wrap64 (Int.tdiv x1_1 2)), (x5_1), rf_, rf_, rf_, H', ⟨by have := HK1.out; omega⟩, dr_⟩
   ·rw [if_neg c3] at H
    have c3b0 : decide (0 < x1_1) = false := decide_eq_false c3; clear c3; obtain rfl := Option.some.inj H; go_wp2
    go_ret
    exact ⟨rf_, dr_⟩
def signatoryref10_Valid.f (k : Nat) (a0 : Int) : Option (Bool) := if a0 ≥ 1 then (if a0 < 2147483579 then ((signatoryref10_power.f k a0 1073741789).bind fun t187 => (some (t187 == 1))) else (some false)) else (some false)
set_option maxHeartbeats 8000000 in
set_option maxRecDepth 100000 in
theorem signatoryref10_Valid.calls (k : Nat) (a0 : Int) (r : Bool) (w : World) (h : signatoryref10_Valid.f k a0 = some r) :
  Calls Try.prog 176 #[.int .i64 a0] w fun e w' => e = .returned (.bool r) ∧ Drawn0 w w' := by
 have H : (if a0 ≥ 1 then (if a0 < 2147483579 then ((signatoryref10_power.f k a0 1073741789).bind fun t187 => (some (t187 == 1))) else (some false)) else (some false)) = some r := h; clear h
 by_cases c2 : a0 ≥ 1
 ·rw [if_pos c2] at H
  have c2b0 : decide (1 ≤ a0) = true := decide_eq_true c2; clear c2
  by_cases c3 : a0 < 2147483579
  ·rw [if_pos c3] at H
   have c3b0 : decide (a0 < 2147483579) = true := decide_eq_true c3; clear c3; replace H := Option.bind_eq_some_iff.mp H; obtain ⟨t187, A40, H⟩ := H; replace H : (some (t187 == 1)) = some r := H; have A4 := Aside0.mk A40; clear A40; obtain rfl := Option.some.inj H
   go_enter Try.func176, Try.ntmps176
   go_wp2_with (first | (go_at_call 196; (with_reducible refine (signatoryref10_power.calls k a0 1073741789 t187 _ A4.out).mono ?_); rintro e w' ⟨rfl, ⟨nd, rfl⟩⟩))
   go_ret
   exact ⟨rf_, dr_⟩
  ·rw [if_neg c3] at H
   have c3b0 : decide (a0 < 2147483579) = false := decide_eq_false c3; clear c3; obtain rfl := Option.some.inj H
   go_enter Try.func176, Try.ntmps176
   go_wp2
   go_ret
   exact ⟨rf_, dr_⟩
 ·rw [if_neg c2] at H
  have c2b0 : decide (1 ≤ a0) = false := decide_eq_false c2; clear c2; obtain rfl := Option.some.inj H
  go_enter Try.func176, Try.ntmps176
  go_wp2
  go_ret
  exact ⟨rf_, dr_⟩
def signatoryref10_Pow.f (k : Nat) (a0 : Int) (a1 : Int) : Option (Int × Int) := (signatoryref10_Valid.f k a0).bind fun t190 => (if t190 = true then ((signatoryref10_exponent.f a1).bind fun t191 => ((signatoryref10_power.f k a0 t191).bind fun t192 => (some (t192, 0)))) else (some (0, 100)))
set_option maxHeartbeats 8000000 in
set_option maxRecDepth 100000 in
theorem signatoryref10_Pow.calls (k : Nat) (a0 : Int) (a1 : Int) (r1 : Int) (r2 : Int) (w : World) (h : signatoryref10_Pow.f k a0 a1 = some (r1, r2)) :
  Calls Try.prog 168 #[.int .i64 a0, .int .i64 a1] w fun e w' => e = .returned (.tuple #[.int .i64 r1, .int .i64 r2]) ∧ Drawn0 w w' := by
 have H : ((signatoryref10_Valid.f k a0).bind fun t190 => (if t190 = true then ((signatoryref10_exponent.f a1).bind fun t191 => ((signatoryref10_power.f k a0 t191).bind fun t192 => (some (t192, 0)))) else (some (0, 100)))) = some (r1, r2) := h; clear h; replace H := Option.bind_eq_some_iff.mp H; obtain ⟨t190, A30, H⟩ := H; replace H : (if t190 = true then ((signatoryref10_exponent.f a1).bind fun t191 => ((signatoryref10_power.f k a0 t191).bind fun t192 => (some (t192, 0)))) else (some (0, 100))) = some (r1, r2) := H; have A3 := Aside0.mk A30; clear A30
 by_cases c4 : t190 = true
 ·subst c4
  have H1 : ((signatoryref10_exponent.f a1).bind fun t191 => ((signatoryref10_power.f k a0 t191).bind fun t192 => (some (t192, 0)))) = some (r1, r2) := by rw [if_pos rfl] at H; exact H
  clear H; have H := H1; clear H1; replace H := Option.bind_eq_some_iff.mp H; obtain ⟨t191, A50, H⟩ := H; replace H : ((signatoryref10_power.f k a0 t191).bind fun t192 => (some (t192, 0))) = some (r1, r2) := H; have A5 := Aside0.mk A50; clear A50; replace H := Option.bind_eq_some_iff.mp H; obtain ⟨t192, A60, H⟩ := H; replace H : (some (t192, 0)) = some (r1, r2) := H; have A6 := Aside0.mk A60; clear A60; simp only [Option.some.injEq, Prod.mk.injEq] at H; obtain ⟨rfl, rfl⟩ := H
  go_enter Try.func168, Try.ntmps168
  go_wp2_with (first | ((with_reducible refine gate_callee (f := 176) rfl ?_); refine goesL_ (some 7) rfl rfl Try.func176 (by kernel_rfl) rfl #[.int .i64 a0] rfl mp_ ?_; (with_reducible refine (signatoryref10_Valid.calls k a0 true _ A3.out).mono ?_); rintro e w' ⟨rfl, ⟨nd, rfl⟩⟩; refine ⟨_, rfl, ?_⟩) | ((with_reducible refine gate_callee (f := 197) rfl ?_); refine goesL_ (some 11) rfl rfl Try.func197 (by kernel_rfl) rfl #[.int .i64 a1] rfl mp_ ?_; (with_reducible refine (signatoryref10_exponent.calls a1 t191 _ A5.out).mono ?_); rintro e w' ⟨rfl, ⟨nd, rfl⟩⟩; refine ⟨_, rfl, ?_⟩) | ((with_reducible refine gate_callee (f := 196) rfl ?_); refine goesL_ (some 12) rfl rfl Try.func196 (by kernel_rfl) rfl #[.int .i64 a0, .int .i64 t191] rfl mp_ ?_; (with_reducible refine (signatoryref10_power.calls k a0 t191 t192 _ A6.out).mono ?_); rintro e w' ⟨rfl, ⟨nd, rfl⟩⟩; refine ⟨_, rfl, ?_⟩))
  go_ret2
  exact ⟨rf_, dr_⟩
 ·replace c4 := Bool.eq_false_iff.mpr c4
  subst c4
  have H1 : (some (0, 100)) = some (r1, r2) := by rw [if_neg (show ¬ (false = true) by decide)] at H; exact H
  clear H; have H := H1; clear H1; simp only [Option.some.injEq, Prod.mk.injEq] at H; obtain ⟨rfl, rfl⟩ := H
  go_enter Try.func168, Try.ntmps168
  go_wp2_with (first | ((with_reducible refine gate_callee (f := 176) rfl ?_); refine goesL_ (some 7) rfl rfl Try.func176 (by kernel_rfl) rfl #[.int .i64 a0] rfl mp_ ?_; (with_reducible refine (signatoryref10_Valid.calls k a0 false _ A3.out).mono ?_); rintro e w' ⟨rfl, ⟨nd, rfl⟩⟩; refine ⟨_, rfl, ?_⟩))
  go_ret2
  exact ⟨rf_, dr_⟩
end Go.Proofs.Ytdbamhckgaoibaa.P
namespace Go.Proofs.Ytdbamhckgaoibaa.P
open Go.RowKit Go.Proofs.YtdbamhckgaoibaaW.PrintWords Go.Proofs.YtdbamhckgaoibaaW.PrintLast Go.Proofs.YtdbamhckgaoibaaW.PrintMore
attribute [local go_sem] max2_int min2_int max_two min_two max_three min_three max_four min_four
set_option linter.unusedVariables false
set_option linter.unusedSimpArgs false
def signatoryref13_Numbers.l0 : Nat → List Int → Int → Option (Bool)
 | 0, _, _ => none
 | k + 1, x0, x3 => if x3 < (x0.length : Int) then (if 0 ≤ x3 then (if (rd x0 x3) < 0 then (some false) else (if (rd x0 x3) ≥ 1073741789 then (some false) else (signatoryref13_Numbers.l0 k x0 (wrap64 (x3 + 1))))) else (none)) else (some true)
def signatoryref13_Numbers.f (k : Nat) (l0 : List Int) : Option (Bool) := signatoryref13_Numbers.l0 k l0 0
set_option maxHeartbeats 8000000 in
set_option maxRecDepth 100000 in
theorem signatoryref13_Numbers.calls (k : Nat) (A0 : Option Addr) (c0 : Nat) (l0 : List Int) (r : Bool) (w : World) (hr0 : Kd.C (Kd.int .i64) w A0 l0.length l0) (hc0 : l0.length ≤ c0) (h : signatoryref13_Numbers.f k l0 = some r) :
  Calls Try.prog 199 #[.slice A0 l0.length c0] w fun e w' => e = .returned (.bool r) ∧ Drawn0 w w' := by
 have HR0 := Aside0.mk hr0; have HC0 := Aside0.mk hc0; clear hr0 hc0; have H : (signatoryref13_Numbers.l0 k l0 0) = some r := h; clear h; have H' := Aside0.mk H; clear H
 go_enter Try.func199, Try.ntmps199
 go_wp2
 go_loopg [3] k (fun kq v3 w' => ∃ (x3_1 : Int), v3 = .int .i64 x3_1 ∧ Aside0 (signatoryref13_Numbers.l0 kq l0 x3_1 = some r) ∧ Aside0 (kq ≤ k) ∧ Drawn0 w w')
 case atStart => exact ⟨(0), rf_, H', ⟨Nat.le_refl _⟩, dr_⟩
 case round =>
  clear H'; (try clear c1); obtain ⟨x3_1, rfl, HA, HK1, ⟨m1, rfl⟩⟩ := hrel
  cases gk with
  | zero => exact absurd HA.out (by simp [signatoryref13_Numbers.l0])
  | succ k1 =>
   have H := HA.out; clear HA; simp only [signatoryref13_Numbers.l0] at H
   by_cases c2 : x3_1 < (l0.length : Int)
   ·rw [if_pos c2] at H
    have c2b0 : decide (x3_1 < (l0.length : Int)) = true := decide_eq_true c2; clear c2
    by_cases c3 : 0 ≤ x3_1
    ·rw [if_pos c3] at H
     have c3b0 : decide (0 ≤ x3_1) = true := decide_eq_true c3; clear c3
     by_cases c4 : (rd l0 x3_1) < 0
     ·rw [if_pos c4] at H
      have c4b0 : decide ((rd l0 x3_1) < 0) = true := decide_eq_true c4; clear c4; obtain rfl := Option.some.inj H; have p193 : 0 ≤ (x3_1 : Int) := of_decide_eq_true as_; have q193 : x3_1 < (l0.length : Int) := of_decide_eq_true as_; obtain ⟨ad193, e193, hx193_0⟩ := Kd.at_int HR0.out x3_1 p193 q193; cases e193; replace p193 := eq_true p193; replace q193 := eq_true q193; go_wp2
      go_ret
      exact ⟨rf_, dr_⟩
     ·rw [if_neg c4] at H
      have c4b0 : decide ((rd l0 x3_1) < 0) = false := decide_eq_false c4; clear c4
      by_cases c5 : (rd l0 x3_1) ≥ 1073741789
      ·rw [if_pos c5] at H
       have c5b0 : decide (1073741789 ≤ (rd l0 x3_1)) = true := decide_eq_true c5; clear c5; obtain rfl := Option.some.inj H; have p193 : 0 ≤ (x3_1 : Int) := of_decide_eq_true as_; have q193 : x3_1 < (l0.length : Int) := of_decide_eq_true as_; obtain ⟨ad193, e193, hx193_0⟩ := Kd.at_int HR0.out x3_1 p193 q193; cases e193; replace p193 := eq_true p193; replace q193 := eq_true q193; have p194 : 0 ≤ (x3_1 : Int) := of_decide_eq_true as_; have q194 : x3_1 < (l0.length : Int) := of_decide_eq_true as_; obtain ⟨ad194, e194, hx194_0⟩ := Kd.at_int HR0.out x3_1 p194 q194
       obtain rfl : ad193 = ad194 := (by injection e194)
       replace p194 := eq_true p194; replace q194 := eq_true q194; go_wp2
       go_ret
       exact ⟨rf_, dr_⟩
      ·rw [if_neg c5] at H
       have c5b0 : decide (1073741789 ≤ (rd l0 x3_1)) = false := decide_eq_false c5; clear c5; have H' := Aside0.mk H; clear H; have p193 : 0 ≤ (x3_1 : Int) := of_decide_eq_true as_; have q193 : x3_1 < (l0.length : Int) := of_decide_eq_true as_; obtain ⟨ad193, e193, hx193_0⟩ := Kd.at_int HR0.out x3_1 p193 q193; cases e193; replace p193 := eq_true p193; replace q193 := eq_true q193; have p194 : 0 ≤ (x3_1 : Int) := of_decide_eq_true as_; have q194 : x3_1 < (l0.length : Int) := of_decide_eq_true as_; obtain ⟨ad194, e194, hx194_0⟩ := Kd.at_int HR0.out x3_1 p194 q194
       obtain rfl : ad193 = ad194 := (by injection e194)
       replace p194 := eq_true p194; replace q194 := eq_true q194; go_wp2
       go_roundg k1
       case measure => have := HK1.out; omega
       case rel => exact ⟨(wrap64 (x3_1 + 1)), rf_, H', ⟨by have := HK1.out; omega⟩, dr_⟩
    ·rw [if_neg c3] at H
     exact absurd H (by simp)
   ·rw [if_neg c2] at H
    have c2b0 : decide (x3_1 < (l0.length : Int)) = false := decide_eq_false c2; clear c2; obtain rfl := Option.some.inj H; go_wp2
    go_ret
    exact ⟨rf_, dr_⟩
mutual
def signatoryref13_Check.l0 : Nat → List (List Int) → Int → Option (Int)
 | 0, _, _ => none
 | k + 1, x0, x3 => if x3 < (x0.length : Int) then (if 0 ≤ x3 then (if ((rd_L1 x0 x3).length : Int) > 64 then (some 2) else (signatoryref13_Check.l0 k x0 (wrap64 (x3 + 1)))) else (none)) else (signatoryref13_Check.l1 k x0 0)
def signatoryref13_Check.l1 : Nat → List (List Int) → Int → Option (Int)
 | 0, _, _ => none
 | k + 1, x0, x4 => if x4 < (x0.length : Int) then (if 0 ≤ x4 then (if 0 < (x0.length : Int) then (if ((rd_L1 x0 x4).length : Int) = ((rd_L1 x0 0).length : Int) then ((signatoryref13_Numbers.f k (rd_L1 x0 x4)).bind fun t199 => (if t199 = true then (signatoryref13_Check.l1 k x0 (wrap64 (x4 + 1))) else (some 130))) else (some 130)) else (none)) else (none)) else (some 0)
end
def signatoryref13_Check.f (k : Nat) (l0 : List (List Int)) : Option (Int) := if (l0.length : Int) > 64 then (some 2) else (signatoryref13_Check.l0 k l0 0)
set_option maxHeartbeats 8000000 in
set_option maxRecDepth 100000 in
theorem signatoryref13_Check.calls (k : Nat) (A0 : Option Addr) (c0 : Nat) (l0 : List (List Int)) (r : Int) (w : World) (hr0 : Kd.C (Kd.slice 3 (Kd.int .i64)) w A0 l0.length l0) (hc0 : l0.length ≤ c0) (h : signatoryref13_Check.f k l0 = some r) :
  Calls Try.prog 198 #[.slice A0 l0.length c0] w fun e w' => e = .returned (.int .i64 r) ∧ Drawn0 w w' := by
 have HR0 := Aside0.mk hr0; have HC0 := Aside0.mk hc0; clear hr0 hc0; have H : (if (l0.length : Int) > 64 then (some 2) else (signatoryref13_Check.l0 k l0 0)) = some r := h; clear h
 by_cases c2 : (l0.length : Int) > 64
 ·rw [if_pos c2] at H
  have c2b0 : decide (64 < (l0.length : Int)) = true := decide_eq_true c2; have c2b1 : decide (64 < l0.length) = true := decide_eq_true (by omega); clear c2; obtain rfl := Option.some.inj H
  go_enter Try.func198, Try.ntmps198
  go_wp2
  repeat (go_quiet (fail); try go_wp2)
  go_ret
  exact ⟨rf_, dr_⟩
 ·rw [if_neg c2] at H
  have c2b0 : decide (64 < (l0.length : Int)) = false := decide_eq_false c2; have c2b1 : decide (64 < l0.length) = false := decide_eq_false (by omega); clear c2; have H' := Aside0.mk H; clear H
  go_enter Try.func198, Try.ntmps198
  go_wp2
  repeat (go_quiet (fail); try go_wp2)
  go_loopg [3] k (fun kq v3 w' => ∃ (x3_1 : Int), v3 = .int .i64 x3_1 ∧ Aside0 (signatoryref13_Check.l0 kq l0 x3_1 = some r) ∧ Aside0 (kq ≤ k) ∧ Drawn0 w w')
  case atStart => exact ⟨(0), rf_, H', ⟨Nat.le_refl _⟩, dr_⟩
  case round =>
   clear H'; (try clear c1); (try clear c2); (try clear c2b0); (try clear c2b1); (try clear p2); obtain ⟨x3_1, rfl, HA, HK1, ⟨m1, rfl⟩⟩ := hrel
   cases gk with
   | zero => exact absurd HA.out (by simp [signatoryref13_Check.l0])
   | succ k1 =>
    have H := HA.out; clear HA; simp only [signatoryref13_Check.l0] at H
    by_cases c3 : x3_1 < (l0.length : Int)
    ·rw [if_pos c3] at H
     have c3b0 : decide (x3_1 < (l0.length : Int)) = true := decide_eq_true c3; clear c3
     by_cases c4 : 0 ≤ x3_1
     ·rw [if_pos c4] at H
      have c4b0 : decide (0 ≤ x3_1) = true := decide_eq_true c4; clear c4
      by_cases c5 : ((rd_L1 l0 x3_1).length : Int) > 64
      ·rw [if_pos c5] at H
       have c5b0 : decide (64 < ((rd_L1 l0 x3_1).length : Int)) = true := decide_eq_true c5; have c5b1 : decide (64 < (rd_L1 l0 x3_1).length) = true := decide_eq_true (by omega); clear c5; obtain rfl := Option.some.inj H; have p195 : 0 ≤ (x3_1 : Int) := of_decide_eq_true as_; have q195 : x3_1 < (l0.length : Int) := of_decide_eq_true as_; obtain ⟨ad195, A195_0, c195_0, e195, hx195_0, hl195_0, hi195_0⟩ := at_L1 HR0.out x3_1 p195 q195; cases e195; have HR195_0 := Aside0.mk hi195_0; have HC195_0 := Aside0.mk hl195_0; clear hi195_0 hl195_0; replace p195 := eq_true p195; replace q195 := eq_true q195; go_wp2
       repeat (go_quiet (fail); try go_wp2)
       go_ret
       exact ⟨rf_, dr_⟩
      ·rw [if_neg c5] at H
       have c5b0 : decide (64 < ((rd_L1 l0 x3_1).length : Int)) = false := decide_eq_false c5; have c5b1 : decide (64 < (rd_L1 l0 x3_1).length) = false := decide_eq_false (by omega); clear c5; have H' := Aside0.mk H; clear H; have p195 : 0 ≤ (x3_1 : Int) := of_decide_eq_true as_; have q195 : x3_1 < (l0.length : Int) := of_decide_eq_true as_; obtain ⟨ad195, A195_0, c195_0, e195, hx195_0, hl195_0, hi195_0⟩ := at_L1 HR0.out x3_1 p195 q195; cases e195; have HR195_0 := Aside0.mk hi195_0; have HC195_0 := Aside0.mk hl195_0; clear hi195_0 hl195_0; replace p195 := eq_true p195; replace q195 := eq_true q195; go_wp2
       repeat (go_quiet (fail); try go_wp2)
       go_roundg k1
       case measure => have := HK1.out; omega
       case rel => exact ⟨(wrap64 (x3_1 + 1)), rf_, H', ⟨by have := HK1.out; omega⟩, dr_⟩
     ·rw [if_neg c4] at H
      exact absurd H (by simp)
    ·rw [if_neg c3] at H
     have c3b0 : decide (x3_1 < (l0.length : Int)) = false := decide_eq_false c3; clear c3; have H' := Aside0.mk H; clear H; go_wp2
     repeat (go_quiet (fail); try go_wp2)
     go_loopg [4] k1 (fun kq v4 w' => ∃ (x4_2 : Int), v4 = .int .i64 x4_2 ∧ Aside0 (signatoryref13_Check.l1 kq l0 x4_2 = some r) ∧ Aside0 (kq ≤ k1) ∧ Drawn0 w w')
     case atStart => exact ⟨(0), rf_, H', ⟨Nat.le_refl _⟩, dr_⟩
     case round =>
      clear H'; (try clear c1); (try clear p1); (try clear q1); (try clear hx1); (try clear c2); (try clear c2b0); (try clear c2b1); (try clear p2); (try clear c3); (try clear c3b0); (try clear c4); (try clear c4b0); (try clear c5); (try clear c5b0); (try clear c5b1); (try clear hx195_0); (try clear p195); (try clear p2); (try clear q195); obtain ⟨x4_2, rfl, HA, HK2, ⟨m2, rfl⟩⟩ := hrel
      cases gk with
      | zero => exact absurd HA.out (by simp [signatoryref13_Check.l1])
      | succ k2 =>
       have H := HA.out; clear HA; simp only [signatoryref13_Check.l1] at H
       by_cases c6 : x4_2 < (l0.length : Int)
       ·rw [if_pos c6] at H
        have c6b0 : decide (x4_2 < (l0.length : Int)) = true := decide_eq_true c6; clear c6
        by_cases c7 : 0 ≤ x4_2
        ·rw [if_pos c7] at H
         have c7b0 : decide (0 ≤ x4_2) = true := decide_eq_true c7; clear c7
         by_cases c8 : 0 < (l0.length : Int)
         ·rw [if_pos c8] at H
          have c8b0 : decide (0 < (l0.length : Int)) = true := decide_eq_true c8; have c8b1 : decide (0 < l0.length) = true := decide_eq_true (by omega); clear c8
          by_cases c9 : ((rd_L1 l0 x4_2).length : Int) = ((rd_L1 l0 0).length : Int)
          ·rw [if_pos c9] at H
           have c9b0 : (((rd_L1 l0 x4_2).length : Int) == ((rd_L1 l0 0).length : Int)) = true := beq_iff_eq.mpr c9; have c9b1 : (((rd_L1 l0 x4_2).length : Int) != ((rd_L1 l0 0).length : Int)) = false := bne_eq_false_iff_eq.mpr c9
           have c9b2 : ((rd_L1 l0 x4_2).length == (rd_L1 l0 0).length) = true := by first | simpa using c9 | (simp at c9 ⊢; omega)
           clear c9; replace H := Option.bind_eq_some_iff.mp H; obtain ⟨t199, A100, H⟩ := H; replace H : (if t199 = true then (signatoryref13_Check.l1 k2 l0 (wrap64 (x4_2 + 1))) else (some 130)) = some r := H; have A10 := Aside0.mk A100; clear A100
           by_cases c11 : t199 = true
           ·subst c11
            have H1 : (signatoryref13_Check.l1 k2 l0 (wrap64 (x4_2 + 1))) = some r := by rw [if_pos rfl] at H; exact H
            clear H; have H := H1; clear H1; have H' := Aside0.mk H; clear H; have p196 : 0 ≤ (x4_2 : Int) := of_decide_eq_true as_; have q196 : x4_2 < (l0.length : Int) := of_decide_eq_true as_; obtain ⟨ad196, A196_0, c196_0, e196, hx196_0, hl196_0, hi196_0⟩ := at_L1 HR0.out x4_2 p196 q196; cases e196; have HR196_0 := Aside0.mk hi196_0; have HC196_0 := Aside0.mk hl196_0; clear hi196_0 hl196_0; replace p196 := eq_true p196; replace q196 := eq_true q196
            have p197 : 0 ≤ (0 : Int) := (by omega)
            have q197 : 0 < (l0.length : Int) := of_decide_eq_true as_; obtain ⟨ad197, A197_0, c197_0, e197, hx197_0, hl197_0, hi197_0⟩ := at_L1 HR0.out 0 p197 q197
            obtain rfl : ad196 = ad197 := (by injection e197)
            have qi197 : (0 < l0.length) = True := eq_true (by omega); (try rw [show ((0 : Int)).toNat = 0 from rfl] at hx197_0); (try rw [Addr.add_zero'] at hx197_0); have HR197_0 := Aside0.mk hi197_0; have HC197_0 := Aside0.mk hl197_0; clear hi197_0 hl197_0; replace p197 := eq_true p197; replace q197 := eq_true q197; have p198 : 0 ≤ (x4_2 : Int) := of_decide_eq_true as_; have q198 : x4_2 < (l0.length : Int) := of_decide_eq_true as_; obtain ⟨ad198, A198_0, c198_0, e198, hx198_0, hl198_0, hi198_0⟩ := at_L1 HR0.out x4_2 p198 q198
            obtain rfl : ad196 = ad198 := (by injection e198)
            have HR198_0 := Aside0.mk hi198_0; have HC198_0 := Aside0.mk hl198_0; clear hi198_0 hl198_0; replace p198 := eq_true p198; replace q198 := eq_true q198; have ea_ := Option.some.inj (hx196_0.symm.trans hx198_0); injection ea_ with ea_ en_ ec_; subst ea_; subst ec_; clear en_; go_wp2_with (first | (go_at_call 199; (with_reducible refine (signatoryref13_Numbers.calls k2 _ _ (rd_L1 l0 x4_2) true _ ?side1 ?side2 A10.out).mono ?_); (case side1 => exact cb_ HR198_0.out); (case side2 => exact HC198_0.out); rintro e w' ⟨rfl, ⟨nd, rfl⟩⟩; (try first | exact ⟨rfl, _, World.drewN_drewN _ _ _⟩ | exact ⟨rfl, _, Eq.trans (World.drewN_drewN _ _ _) (congrArg (World.drewN _) (Nat.add_assoc _ _ _))⟩)))
            repeat (go_quiet (first | (go_at_call 199; (with_reducible refine (signatoryref13_Numbers.calls k2 _ _ (rd_L1 l0 x4_2) true _ ?side1 ?side2 A10.out).mono ?_); (case side1 => exact cb_ HR198_0.out); (case side2 => exact HC198_0.out); rintro e w' ⟨rfl, ⟨nd, rfl⟩⟩; (try first | exact ⟨rfl, _, World.drewN_drewN _ _ _⟩ | exact ⟨rfl, _, Eq.trans (World.drewN_drewN _ _ _) (congrArg (World.drewN _) (Nat.add_assoc _ _ _))⟩))); try go_wp2_with (first | (go_at_call 199; (with_reducible refine (signatoryref13_Numbers.calls k2 _ _ (rd_L1 l0 x4_2) true _ ?side1 ?side2 A10.out).mono ?_); (case side1 => exact cb_ HR198_0.out); (case side2 => exact HC198_0.out); rintro e w' ⟨rfl, ⟨nd, rfl⟩⟩; (try first | exact ⟨rfl, _, World.drewN_drewN _ _ _⟩ | exact ⟨rfl, _, Eq.trans (World.drewN_drewN _ _ _) (congrArg (World.drewN _) (Nat.add_assoc _ _ _))⟩))))
            go_roundg k2
            case measure => have := HK1.out; have := HK2.out; omega
            case rel => exact ⟨(wrap64 (x4_2 + 1)), rf_, H', ⟨by have := HK1.out; have := HK2.out; omega⟩, dr_⟩
           ·replace c11 := Bool.eq_false_iff.mpr c11
            subst c11
            have H1 : (some 130) = some r := by rw [if_neg (show ¬ (false = true) by decide)] at H; exact H
            clear H; have H := H1; clear H1; obtain rfl := Option.some.inj H; have p196 : 0 ≤ (x4_2 : Int) := of_decide_eq_true as_; have q196 : x4_2 < (l0.length : Int) := of_decide_eq_true as_; obtain ⟨ad196, A196_0, c196_0, e196, hx196_0, hl196_0, hi196_0⟩ := at_L1 HR0.out x4_2 p196 q196; cases e196; have HR196_0 := Aside0.mk hi196_0; have HC196_0 := Aside0.mk hl196_0; clear hi196_0 hl196_0; replace p196 := eq_true p196; replace q196 := eq_true q196
            have p197 : 0 ≤ (0 : Int) := (by omega)
            have q197 : 0 < (l0.length : Int) := of_decide_eq_true as_; obtain ⟨ad197, A197_0, c197_0, e197, hx197_0, hl197_0, hi197_0⟩ := at_L1 HR0.out 0 p197 q197
            obtain rfl : ad196 = ad197 := (by injection e197)
            have qi197 : (0 < l0.length) = True := eq_true (by omega); (try rw [show ((0 : Int)).toNat = 0 from rfl] at hx197_0); (try rw [Addr.add_zero'] at hx197_0); have HR197_0 := Aside0.mk hi197_0; have HC197_0 := Aside0.mk hl197_0; clear hi197_0 hl197_0; replace p197 := eq_true p197; replace q197 := eq_true q197; have p198 : 0 ≤ (x4_2 : Int) := of_decide_eq_true as_; have q198 : x4_2 < (l0.length : Int) := of_decide_eq_true as_; obtain ⟨ad198, A198_0, c198_0, e198, hx198_0, hl198_0, hi198_0⟩ := at_L1 HR0.out x4_2 p198 q198
            obtain rfl : ad196 = ad198 := (by injection e198)
            have HR198_0 := Aside0.mk hi198_0; have HC198_0 := Aside0.mk hl198_0; clear hi198_0 hl198_0; replace p198 := eq_true p198; replace q198 := eq_true q198; have ea_ := Option.some.inj (hx196_0.symm.trans hx198_0); injection ea_ with ea_ en_ ec_; subst ea_; subst ec_; clear en_; go_wp2_with (first | (go_at_call 199; (with_reducible refine (signatoryref13_Numbers.calls k2 _ _ (rd_L1 l0 x4_2) false _ ?side1 ?side2 A10.out).mono ?_); (case side1 => exact cb_ HR198_0.out); (case side2 => exact HC198_0.out); rintro e w' ⟨rfl, ⟨nd, rfl⟩⟩; (try first | exact ⟨rfl, _, World.drewN_drewN _ _ _⟩ | exact ⟨rfl, _, Eq.trans (World.drewN_drewN _ _ _) (congrArg (World.drewN _) (Nat.add_assoc _ _ _))⟩)))
            repeat (go_quiet (first | (go_at_call 199; (with_reducible refine (signatoryref13_Numbers.calls k2 _ _ (rd_L1 l0 x4_2) false _ ?side1 ?side2 A10.out).mono ?_); (case side1 => exact cb_ HR198_0.out); (case side2 => exact HC198_0.out); rintro e w' ⟨rfl, ⟨nd, rfl⟩⟩; (try first | exact ⟨rfl, _, World.drewN_drewN _ _ _⟩ | exact ⟨rfl, _, Eq.trans (World.drewN_drewN _ _ _) (congrArg (World.drewN _) (Nat.add_assoc _ _ _))⟩))); try go_wp2_with (first | (go_at_call 199; (with_reducible refine (signatoryref13_Numbers.calls k2 _ _ (rd_L1 l0 x4_2) false _ ?side1 ?side2 A10.out).mono ?_); (case side1 => exact cb_ HR198_0.out); (case side2 => exact HC198_0.out); rintro e w' ⟨rfl, ⟨nd, rfl⟩⟩; (try first | exact ⟨rfl, _, World.drewN_drewN _ _ _⟩ | exact ⟨rfl, _, Eq.trans (World.drewN_drewN _ _ _) (congrArg (World.drewN _) (Nat.add_assoc _ _ _))⟩))))
            go_ret
            exact ⟨rf_, dr_⟩
          ·rw [if_neg c9] at H
           have c9b0 : (((rd_L1 l0 x4_2).length : Int) == ((rd_L1 l0 0).length : Int)) = false := beq_eq_false_iff_ne.mpr c9; have c9b1 : (((rd_L1 l0 x4_2).length : Int) != ((rd_L1 l0 0).length : Int)) = true := bne_iff_ne.mpr c9
           have c9b2 : ((rd_L1 l0 x4_2).length == (rd_L1 l0 0).length) = false := by first | simpa using c9 | (simp at c9 ⊢; omega)
           obtain rfl := Option.some.inj H; have p196 : 0 ≤ (x4_2 : Int) := of_decide_eq_true as_; have q196 : x4_2 < (l0.length : Int) := of_decide_eq_true as_; obtain ⟨ad196, A196_0, c196_0, e196, hx196_0, hl196_0, hi196_0⟩ := at_L1 HR0.out x4_2 p196 q196; cases e196; have HR196_0 := Aside0.mk hi196_0; have HC196_0 := Aside0.mk hl196_0; clear hi196_0 hl196_0; replace p196 := eq_true p196; replace q196 := eq_true q196
           have p197 : 0 ≤ (0 : Int) := (by omega)
           have q197 : 0 < (l0.length : Int) := of_decide_eq_true as_; obtain ⟨ad197, A197_0, c197_0, e197, hx197_0, hl197_0, hi197_0⟩ := at_L1 HR0.out 0 p197 q197
           obtain rfl : ad196 = ad197 := (by injection e197)
           have qi197 : (0 < l0.length) = True := eq_true (by omega); (try rw [show ((0 : Int)).toNat = 0 from rfl] at hx197_0); (try rw [Addr.add_zero'] at hx197_0); have HR197_0 := Aside0.mk hi197_0; have HC197_0 := Aside0.mk hl197_0; clear hi197_0 hl197_0; replace p197 := eq_true p197; replace q197 := eq_true q197; go_wp2
           repeat (go_quiet (fail); try go_wp2)
           go_ret
           exact ⟨rf_, dr_⟩
         ·rw [if_neg c8] at H
          exact absurd H (by simp)
        ·rw [if_neg c7] at H
         exact absurd H (by simp)
       ·rw [if_neg c6] at H
        have c6b0 : decide (x4_2 < (l0.length : Int)) = false := decide_eq_false c6; clear c6; obtain rfl := Option.some.inj H; go_wp2
        repeat (go_quiet (fail); try go_wp2)
        go_ret
        exact ⟨rf_, dr_⟩
def signatoryref13_Error.f (k : Nat) (l0 : List (List Int)) (l1 : List Int) : Option (Int) := (signatoryref13_Check.f k l0).bind fun t200 => (if t200 = 0 then (if (l1.length : Int) > 64 then (some 2) else ((signatoryref13_Numbers.f k l1).bind fun t201 => (if t201 = true then (if (l0.length : Int) > 0 then (if 0 < (l0.length : Int) then (if (l1.length : Int) = ((rd_L1 l0 0).length : Int) then (some 0) else (some 130)) else (none)) else (some 0)) else (some 130)))) else (some t200))
set_option maxHeartbeats 8000000 in
set_option maxRecDepth 100000 in
theorem signatoryref13_Error.calls (k : Nat) (A0 : Option Addr) (c0 : Nat) (l0 : List (List Int)) (A1 : Option Addr) (c1 : Nat) (l1 : List Int) (r : Int) (w : World) (hr0 : Kd.C (Kd.slice 3 (Kd.int .i64)) w A0 l0.length l0) (hc0 : l0.length ≤ c0) (hr1 : Kd.C (Kd.int .i64) w A1 l1.length l1) (hc1 : l1.length ≤ c1) (h : signatoryref13_Error.f k l0 l1 = some r) :
  Calls Try.prog 172 #[.slice A0 l0.length c0, .slice A1 l1.length c1] w fun e w' => e = .returned (.int .i64 r) ∧ Drawn0 w w' := by
 have HR0 := Aside0.mk hr0; have HC0 := Aside0.mk hc0; clear hr0 hc0; have HR1 := Aside0.mk hr1; have HC1 := Aside0.mk hc1; clear hr1 hc1; have H : ((signatoryref13_Check.f k l0).bind fun t200 => (if t200 = 0 then (if (l1.length : Int) > 64 then (some 2) else ((signatoryref13_Numbers.f k l1).bind fun t201 => (if t201 = true then (if (l0.length : Int) > 0 then (if 0 < (l0.length : Int) then (if (l1.length : Int) = ((rd_L1 l0 0).length : Int) then (some 0) else (some 130)) else (none)) else (some 0)) else (some 130)))) else (some t200))) = some r := h; clear h; replace H := Option.bind_eq_some_iff.mp H; obtain ⟨t200, A30, H⟩ := H; replace H : (if t200 = 0 then (if (l1.length : Int) > 64 then (some 2) else ((signatoryref13_Numbers.f k l1).bind fun t201 => (if t201 = true then (if (l0.length : Int) > 0 then (if 0 < (l0.length : Int) then (if (l1.length : Int) = ((rd_L1 l0 0).length : Int) then (some 0) else (some 130)) else (none)) else (some 0)) else (some 130)))) else (some t200)) = some r := H; have A3 := Aside0.mk A30; clear A30
 by_cases c4 : t200 = 0
 ·rw [if_pos c4] at H
  have c4b0 : (t200 == 0) = true := beq_iff_eq.mpr c4; have c4b1 : (t200 != 0) = false := bne_eq_false_iff_eq.mpr c4; clear c4
  by_cases c5 : (l1.length : Int) > 64
  ·rw [if_pos c5] at H
   have c5b0 : decide (64 < (l1.length : Int)) = true := decide_eq_true c5; have c5b1 : decide (64 < l1.length) = true := decide_eq_true (by omega); clear c5; obtain rfl := Option.some.inj H
   go_enter Try.func172, Try.ntmps172
   go_wp2_with (first | ((with_reducible refine gate_callee (f := 198) rfl ?_); refine goesL_ (some 7) rfl rfl Try.func198 (by kernel_rfl) rfl #[.slice A0 l0.length c0] rfl mp_ ?_; (with_reducible refine (signatoryref13_Check.calls k _ _ l0 t200 _ ?side1 ?side2 A3.out).mono ?_); (case side1 => exact cb_ HR0.out); (case side2 => exact HC0.out); rintro e w' ⟨rfl, ⟨nd, rfl⟩⟩; refine ⟨_, rfl, ?_⟩))
   go_ret
   exact ⟨rf_, dr_⟩
  ·rw [if_neg c5] at H
   have c5b0 : decide (64 < (l1.length : Int)) = false := decide_eq_false c5; have c5b1 : decide (64 < l1.length) = false := decide_eq_false (by omega); clear c5; replace H := Option.bind_eq_some_iff.mp H; obtain ⟨t201, A60, H⟩ := H; replace H : (if t201 = true then (if (l0.length : Int) > 0 then (if 0 < (l0.length : Int) then (if (l1.length : Int) = ((rd_L1 l0 0).length : Int) then (some 0) else (some 130)) else (none)) else (some 0)) else (some 130)) = some r := H; have A6 := Aside0.mk A60; clear A60
   by_cases c7 : t201 = true
   ·subst c7
    have H1 : (if (l0.length : Int) > 0 then (if 0 < (l0.length : Int) then (if (l1.length : Int) = ((rd_L1 l0 0).length : Int) then (some 0) else (some 130)) else (none)) else (some 0)) = some r := by rw [if_pos rfl] at H; exact H
    clear H; have H := H1; clear H1
    by_cases c8 : (l0.length : Int) > 0
    ·rw [if_pos c8] at H
     have c8b0 : decide (0 < (l0.length : Int)) = true := decide_eq_true c8; have c8b1 : decide (0 < l0.length) = true := decide_eq_true (by omega); clear c8
     by_cases c9 : 0 < (l0.length : Int)
     ·rw [if_pos c9] at H
      have c9b0 : decide (0 < (l0.length : Int)) = true := decide_eq_true c9; have c9b1 : decide (0 < l0.length) = true := decide_eq_true (by omega); clear c9
      by_cases c10 : (l1.length : Int) = ((rd_L1 l0 0).length : Int)
      ·rw [if_pos c10] at H
       have c10b0 : ((l1.length : Int) == ((rd_L1 l0 0).length : Int)) = true := beq_iff_eq.mpr c10; have c10b1 : ((l1.length : Int) != ((rd_L1 l0 0).length : Int)) = false := bne_eq_false_iff_eq.mpr c10
       have c10b2 : (l1.length == (rd_L1 l0 0).length) = true := by first | simpa using c10 | (simp at c10 ⊢; omega)
       clear c10; obtain rfl := Option.some.inj H
       go_enter Try.func172, Try.ntmps172
       go_wp2_with (first | ((with_reducible refine gate_callee (f := 198) rfl ?_); refine goesL_ (some 7) rfl rfl Try.func198 (by kernel_rfl) rfl #[.slice A0 l0.length c0] rfl mp_ ?_; (with_reducible refine (signatoryref13_Check.calls k _ _ l0 t200 _ ?side1 ?side2 A3.out).mono ?_); (case side1 => exact cb_ HR0.out); (case side2 => exact HC0.out); rintro e w' ⟨rfl, ⟨nd, rfl⟩⟩; refine ⟨_, rfl, ?_⟩) | ((with_reducible refine gate_callee (f := 199) rfl ?_); refine goesL_ (some 15) rfl rfl Try.func199 (by kernel_rfl) rfl #[.slice A1 l1.length c1] rfl mp_ ?_; (with_reducible refine (signatoryref13_Numbers.calls k _ _ l1 true _ ?side1 ?side2 A6.out).mono ?_); (case side1 => exact cb_ HR1.out); (case side2 => exact HC1.out); rintro e w' ⟨rfl, ⟨nd, rfl⟩⟩; refine ⟨_, rfl, ?_⟩; have p202 : 0 ≤ (0 : Int) := (by omega); have q202 : 0 < (l0.length : Int) := of_decide_eq_true as_; obtain ⟨ad202, A202_0, c202_0, e202, hx202_0, hl202_0, hi202_0⟩ := at_L1 HR0.out 0 p202 q202; cases e202; have qi202 : (0 < l0.length) = True := eq_true (by omega); (try rw [show ((0 : Int)).toNat = 0 from rfl] at hx202_0); (try rw [Addr.add_zero'] at hx202_0); have HR202_0 := Aside0.mk hi202_0; have HC202_0 := Aside0.mk hl202_0; clear hi202_0 hl202_0; replace p202 := eq_true p202; replace q202 := eq_true q202))
       go_ret
       exact ⟨rf_, dr_⟩
      ·rw [if_neg c10] at H
       have c10b0 : ((l1.length : Int) == ((rd_L1 l0 0).length : Int)) = false := beq_eq_false_iff_ne.mpr c10; have c10b1 : ((l1.length : Int) != ((rd_L1 l0 0).length : Int)) = true := bne_iff_ne.mpr c10
       have c10b2 : (l1.length == (rd_L1 l0 0).length) = false := by first | simpa using c10 | (simp at c10 ⊢; omega)
       obtain rfl := Option.some.inj H
       go_enter Try.func172, Try.ntmps172
       go_wp2_with (first | ((with_reducible refine gate_callee (f := 198) rfl ?_); refine goesL_ (some 7) rfl rfl Try.func198 (by kernel_rfl) rfl #[.slice A0 l0.length c0] rfl mp_ ?_; (with_reducible refine (signatoryref13_Check.calls k _ _ l0 t200 _ ?side1 ?side2 A3.out).mono ?_); (case side1 => exact cb_ HR0.out); (case side2 => exact HC0.out); rintro e w' ⟨rfl, ⟨nd, rfl⟩⟩; refine ⟨_, rfl, ?_⟩) | ((with_reducible refine gate_callee (f := 199) rfl ?_); refine goesL_ (some 15) rfl rfl Try.func199 (by kernel_rfl) rfl #[.slice A1 l1.length c1] rfl mp_ ?_; (with_reducible refine (signatoryref13_Numbers.calls k _ _ l1 true _ ?side1 ?side2 A6.out).mono ?_); (case side1 => exact cb_ HR1.out); (case side2 => exact HC1.out); rintro e w' ⟨rfl, ⟨nd, rfl⟩⟩; refine ⟨_, rfl, ?_⟩; have p202 : 0 ≤ (0 : Int) := (by omega); have q202 : 0 < (l0.length : Int) := of_decide_eq_true as_; obtain ⟨ad202, A202_0, c202_0, e202, hx202_0, hl202_0, hi202_0⟩ := at_L1 HR0.out 0 p202 q202; cases e202; have qi202 : (0 < l0.length) = True := eq_true (by omega); (try rw [show ((0 : Int)).toNat = 0 from rfl] at hx202_0); (try rw [Addr.add_zero'] at hx202_0); have HR202_0 := Aside0.mk hi202_0; have HC202_0 := Aside0.mk hl202_0; clear hi202_0 hl202_0; replace p202 := eq_true p202; replace q202 := eq_true q202))
       go_ret
       exact ⟨rf_, dr_⟩
     ·rw [if_neg c9] at H
      exact absurd H (by simp)
    ·rw [if_neg c8] at H
     have c8b0 : decide (0 < (l0.length : Int)) = false := decide_eq_false c8; have c8b1 : decide (0 < l0.length) = false := decide_eq_false (by omega); clear c8; obtain rfl := Option.some.inj H
     go_enter Try.func172, Try.ntmps172
     go_wp2_with (first | ((with_reducible refine gate_callee (f := 198) rfl ?_); refine goesL_ (some 7) rfl rfl Try.func198 (by kernel_rfl) rfl #[.slice A0 l0.length c0] rfl mp_ ?_; (with_reducible refine (signatoryref13_Check.calls k _ _ l0 t200 _ ?side1 ?side2 A3.out).mono ?_); (case side1 => exact cb_ HR0.out); (case side2 => exact HC0.out); rintro e w' ⟨rfl, ⟨nd, rfl⟩⟩; refine ⟨_, rfl, ?_⟩) | ((with_reducible refine gate_callee (f := 199) rfl ?_); refine goesL_ (some 15) rfl rfl Try.func199 (by kernel_rfl) rfl #[.slice A1 l1.length c1] rfl mp_ ?_; (with_reducible refine (signatoryref13_Numbers.calls k _ _ l1 true _ ?side1 ?side2 A6.out).mono ?_); (case side1 => exact cb_ HR1.out); (case side2 => exact HC1.out); rintro e w' ⟨rfl, ⟨nd, rfl⟩⟩; refine ⟨_, rfl, ?_⟩))
     go_ret
     exact ⟨rf_, dr_⟩
   ·replace c7 := Bool.eq_false_iff.mpr c7
    subst c7
    have H1 : (some 130) = some r := by rw [if_neg (show ¬ (false = true) by decide)] at H; exact H
    clear H; have H := H1; clear H1; obtain rfl := Option.some.inj H
    go_enter Try.func172, Try.ntmps172
    go_wp2_with (first | ((with_reducible refine gate_callee (f := 198) rfl ?_); refine goesL_ (some 7) rfl rfl Try.func198 (by kernel_rfl) rfl #[.slice A0 l0.length c0] rfl mp_ ?_; (with_reducible refine (signatoryref13_Check.calls k _ _ l0 t200 _ ?side1 ?side2 A3.out).mono ?_); (case side1 => exact cb_ HR0.out); (case side2 => exact HC0.out); rintro e w' ⟨rfl, ⟨nd, rfl⟩⟩; refine ⟨_, rfl, ?_⟩) | ((with_reducible refine gate_callee (f := 199) rfl ?_); refine goesL_ (some 15) rfl rfl Try.func199 (by kernel_rfl) rfl #[.slice A1 l1.length c1] rfl mp_ ?_; (with_reducible refine (signatoryref13_Numbers.calls k _ _ l1 false _ ?side1 ?side2 A6.out).mono ?_); (case side1 => exact cb_ HR1.out); (case side2 => exact HC1.out); rintro e w' ⟨rfl, ⟨nd, rfl⟩⟩; refine ⟨_, rfl, ?_⟩))
    go_ret
    exact ⟨rf_, dr_⟩
 ·rw [if_neg c4] at H
  have c4b0 : (t200 == 0) = false := beq_eq_false_iff_ne.mpr c4; have c4b1 : (t200 != 0) = true := bne_iff_ne.mpr c4; obtain rfl := Option.some.inj H
  go_enter Try.func172, Try.ntmps172
  go_wp2_with (first | ((with_reducible refine gate_callee (f := 198) rfl ?_); refine goesL_ (some 7) rfl rfl Try.func198 (by kernel_rfl) rfl #[.slice A0 l0.length c0] rfl mp_ ?_; (with_reducible refine (signatoryref13_Check.calls k _ _ l0 t200 _ ?side1 ?side2 A3.out).mono ?_); (case side1 => exact cb_ HR0.out); (case side2 => exact HC0.out); rintro e w' ⟨rfl, ⟨nd, rfl⟩⟩; refine ⟨_, rfl, ?_⟩))
  go_ret
  exact ⟨rf_, dr_⟩
def signatoryref13_less.l0 : Nat → List Int → List Int → Int → List Int → Int → Option (List Int)
 | 0, _, _, _, _, _ => none
 | k + 1, x0, x1, x2, x7, x8 => if x8 < (x0.length : Int) then (if 0 ≤ x8 then (if x8 < (x1.length : Int) then ((signatoryref09_Mul.f x2 (rd x1 x8)).bind fun t208 => ((signatoryref09_Add.f (rd x0 x8) (wrap64 (-t208))).bind fun t209 => (if x8 < (x7.length : Int) then (signatoryref13_less.l0 k x0 x1 x2 (x7.set (x8 : Int).toNat t209) (wrap64 (x8 + 1))) else (none)))) else (none)) else (none)) else (some x7)
def signatoryref13_less.f (k : Nat) (l0 : List Int) (l1 : List Int) (a2 : Int) : Option (List Int) := if 0 ≤ (l0.length : Int) then (if ((l0.length : Int) : Int).toNat ≤ 35184372088832 then (signatoryref13_less.l0 k l0 l1 a2 (List.replicate ((l0.length : Int) : Int).toNat 0) 0) else (none)) else (none)
def signatoryref13_less.T5 : Bool × List (List Nat × List Nat) := (true, [([], []), ([], []), ([], []), ([], []), ([2, 3], [2, 3]), ([4], [4]), ([], []), ([], []), ([], []), ([7, 8], [7, 8]), ([9], [9]), ([6, 10], [6, 10]), ([11], [11]), ([5, 12, 11], [5, 12]), ([0, 1, 0, 1, 2, 3, 4, 5, 6, 7, 8, 9, 10, 11, 12, 13], [0, 1]), ([14, 13, 13, 0, 1, 2, 3, 4, 5, 6, 7, 8, 9, 10, 11, 12, 13], [13, 14])])
def signatoryref13_less.B5 : List Nat := [0, 0, 0, 0, 12, 28, 0, 0, 0, 384, 896, 1984, 4032, 8188, 16383, 32767]
theorem signatoryref13_less.tab5 : rtab .any (opsOf Try.f202 5) = signatoryref13_less.T5 := by kernel_rfl
theorem signatoryref13_less.bits5 : waitsOk signatoryref13_less.T5.2 signatoryref13_less.B5 = true := by kernel_rfl
set_option maxHeartbeats 8000000 in
set_option maxRecDepth 100000 in
theorem signatoryref13_less.calls (k : Nat) (A0 : Option Addr) (c0 : Nat) (l0 : List Int) (A1 : Option Addr) (c1 : Nat) (l1 : List Int) (a2 : Int) (r : List Int) (w : World) (hr0 : Kd.C (Kd.int .i64) w A0 l0.length l0) (hc0 : l0.length ≤ c0) (hr1 : Kd.C (Kd.int .i64) w A1 l1.length l1) (hc1 : l1.length ≤ c1) (h : signatoryref13_less.f k l0 l1 a2 = some r) :
  Calls Try.prog 202 #[.slice A0 l0.length c0, .slice A1 l1.length c1, .int .i64 a2] w fun e w' => ∃ v0_ : Value, e = .returned (v0_) ∧ Kd.R (Kd.int .i64) 3 w' w.heap.size (fun _ => True) v0_ r ∧ Below w.heap.size w w' := by
 have HR0 := Aside0.mk hr0; have HC0 := Aside0.mk hc0; clear hr0 hc0; have HR1 := Aside0.mk hr1; have HC1 := Aside0.mk hc1; clear hr1 hc1; have HB := Aside0.mk (Below.refl w.heap.size w); have H : (if 0 ≤ (l0.length : Int) then (if ((l0.length : Int) : Int).toNat ≤ 35184372088832 then (signatoryref13_less.l0 k l0 l1 a2 (List.replicate ((l0.length : Int) : Int).toNat 0) 0) else (none)) else (none)) = some r := h; clear h
 by_cases c4 : 0 ≤ (l0.length : Int)
 ·rw [if_pos c4] at H
  have c4b0 := eq_true c4; have c4b1 : decide (0 ≤ (l0.length : Int)) = true := decide_eq_true c4; clear c4
  by_cases c5 : ((l0.length : Int) : Int).toNat ≤ 35184372088832
  ·rw [if_pos c5] at H
   have c5b0 := eq_true c5; have c5b1 : decide (((l0.length : Int) : Int).toNat ≤ 35184372088832) = true := decide_eq_true c5; clear c5
   obtain ⟨y203, hy203⟩ : ∃ y_ : List Int, y_ = (List.replicate ((l0.length : Int) : Int).toNat 0) := ⟨_, rfl⟩
   replace H : (signatoryref13_less.l0 k l0 l1 a2 y203 0) = some r := by first | (rw [hy203]; with_reducible exact H) | (have H2_ := (Option.bind_some _ _).symm.trans H; rw [hy203]; with_reducible exact H2_) | (have H2_ := (Option.bind_some _ _).symm.trans H; with_reducible exact H2_) | with_reducible exact H | (rw [hy203]; exact H) | exact H
   have Ny203 := Aside0.mk hy203; clear hy203; have H' := Aside0.mk H; clear H
   go_enter Try.func202, Try.ntmps202
   go_wp2_with (first | ((with_reducible refine gate_dst (N := 11) rfl ?_); refine Kd.R_make (Kd.int .i64) _ 3 rfl (N := 11) rfl 23 _ _ rfl (l0.length : Int) rfl rfl Try.underlying23 (.int .i64 0) 8 info3 rfl (by decide) (by omega) 0 (ok := fun _ => True) (okp := fun _ => True) rfl (fun _ hk => hk) trivial (of_decide_eq_true as_) (Nat.le_trans (Nat.mul_le_mul_right _ (of_decide_eq_true as_ : (l0.length : Int).toNat ≤ 35184372088832)) (by omega)) (Below.refl _ _) (Nat.le_refl _) ?_; intro v204 w6 ho7 hb hg_ hnew_; clear hg_ hnew_; (first | rw [← Ny203.out] at ho7 | (simp only [Int.reduceToNat] at ho7; rw [← Ny203.out] at ho7)); have n0_ := Aside0.mk (Kd.R_lower ho7 (below_size hb_)); have n1_ := Aside0.mk (below_step hb_ hb); clear HB; have HO205 := n0_; have HB := n1_; clear n0_ n1_; clear hb ho7))
   go_loopg [8] k (fun kq v8 w' => ∃ (x7_1 : List Int) (x8_1 : Int), v8 = .int .i64 x8_1 ∧ Aside0 (signatoryref13_less.l0 kq l0 l1 a2 x7_1 x8_1 = some r) ∧ Aside0 (kq ≤ k) ∧ Aside0 (Kd.R (Kd.int .i64) 3 w' w.heap.size (fun _ => True) v204 x7_1) ∧ Aside0 (Below w.heap.size w w'))
   case atStart => exact ⟨(y203), (0), rf_, H', ⟨Nat.le_refl _⟩, ⟨rr_ HO205.out⟩, ⟨hb_⟩⟩
   case round =>
    clear H'; (try clear c1); (try clear c2); (try clear p2); (try clear c4); (try clear c4b0); (try clear c4b1); (try clear c5); (try clear c5b0); (try clear c5b1); obtain ⟨x7_1, x8_1, rfl, HA, HK1, HO_7, HB⟩ := hrel
    cases gk with
    | zero => exact absurd HA.out (by simp [signatoryref13_less.l0])
    | succ k1 =>
     have H := HA.out; clear HA; simp only [signatoryref13_less.l0] at H
     by_cases c8 : x8_1 < (l0.length : Int)
     ·rw [if_pos c8] at H
      have c8b0 : decide (x8_1 < (l0.length : Int)) = true := decide_eq_true c8; clear c8
      by_cases c9 : 0 ≤ x8_1
      ·rw [if_pos c9] at H
       have c9b0 : decide (0 ≤ x8_1) = true := decide_eq_true c9; clear c9
       by_cases c10 : x8_1 < (l1.length : Int)
       ·rw [if_pos c10] at H
        have c10b0 : decide (x8_1 < (l1.length : Int)) = true := decide_eq_true c10; clear c10; replace H := Option.bind_eq_some_iff.mp H; obtain ⟨t208, A110, H⟩ := H; replace H : ((signatoryref09_Add.f (rd l0 x8_1) (wrap64 (-t208))).bind fun t209 => (if x8_1 < (x7_1.length : Int) then (signatoryref13_less.l0 k1 l0 l1 a2 (x7_1.set (x8_1 : Int).toNat t209) (wrap64 (x8_1 + 1))) else (none))) = some r := H; have A11 := Aside0.mk A110; clear A110; replace H := Option.bind_eq_some_iff.mp H; obtain ⟨t209, A120, H⟩ := H; replace H : (if x8_1 < (x7_1.length : Int) then (signatoryref13_less.l0 k1 l0 l1 a2 (x7_1.set (x8_1 : Int).toNat t209) (wrap64 (x8_1 + 1))) else (none)) = some r := H; have A12 := Aside0.mk A120; clear A120
        by_cases c13 : x8_1 < (x7_1.length : Int)
        ·rw [if_pos c13] at H
         have c13b0 : decide (x8_1 < (x7_1.length : Int)) = true := decide_eq_true c13; clear c13
         obtain ⟨y210, hy210⟩ : ∃ y_ : List Int, y_ = (x7_1.set (x8_1 : Int).toNat t209) := ⟨_, rfl⟩
         replace H : (signatoryref13_less.l0 k1 l0 l1 a2 y210 (wrap64 (x8_1 + 1))) = some r := by first | (rw [hy210]; with_reducible exact H) | (have H2_ := (Option.bind_some _ _).symm.trans H; rw [hy210]; with_reducible exact H2_) | (have H2_ := (Option.bind_some _ _).symm.trans H; with_reducible exact H2_) | with_reducible exact H | (rw [hy210]; exact H) | exact H
         have Ny210 := Aside0.mk hy210; clear hy210; have H' := Aside0.mk H; clear H
         try go_wp2
         have n0_ := Aside0.mk (Kd.R_drew HO_7.out); have n1_ := Aside0.mk (below_drew1 HB.out); clear HO_7; clear HB; have HO_7 := n0_; have HB := n1_; clear n0_ n1_; have p206 : 0 ≤ (x8_1 : Int) := of_decide_eq_true as_; have q206 : x8_1 < (l0.length : Int) := of_decide_eq_true as_; obtain ⟨ad206, e206, hx206_0⟩ := Kd.at_int HR0.out x8_1 p206 q206; have hw206_0 := hx206_0; cases e206; replace hx206_0 := (HB.out.cell (World.block_lt_of_cell? w _ hx206_0)).trans hx206_0; replace p206 := eq_true p206; replace q206 := eq_true q206; have p207 : 0 ≤ (x8_1 : Int) := of_decide_eq_true as_; have q207 : x8_1 < (l1.length : Int) := of_decide_eq_true as_; obtain ⟨ad207, e207, hx207_0⟩ := Kd.at_int HR1.out x8_1 p207 q207; have hw207_0 := hx207_0; cases e207; replace hx207_0 := (HB.out.cell (World.block_lt_of_cell? w _ hx207_0)).trans hx207_0; replace p207 := eq_true p207; replace q207 := eq_true q207
         refine start_ (n := 16) (S := fun w' => w'.cell? (ad206.add (x8_1).toNat) = some (.int .i64 (rd l0 x8_1)) ∧ w'.cell? (ad207.add (x8_1).toNat) = some (.int .i64 (rd l1 x8_1))) (ds := [15]) #[false, false, false, false, false, false, false, false, false, false, false, false, false, false, false, false] (by kernel_rfl) rfl rfl ⟨((HB.out.cell (World.block_lt_of_cell? w _ hw206_0)).trans hw206_0), ((HB.out.cell (World.block_lt_of_cell? w _ hw207_0)).trans hw207_0)⟩ (fun hHeld => ?_); refine with_tabW signatoryref13_less.tab5 signatoryref13_less.bits5 (fun HT_ HW_ => ?_)
         generalize wr.drew = w15 at HO_7 HB hx206_0 hx207_0 hHeld ⊢; refine pure_ (i := 0) (N := some 18) (v := ?_) (a' := ?_) #[true, false, false, false, false, false, false, false, false, false, false, false, false, false, false, false] rfl rfl (any_of HT_.out (by kernel_rfl)) (fun _ _ _ h => h) (Or.inl ⟨by rfl, ?_⟩) ?_ ?_; rotate_left
         ·intro w'
          go_simp
          with_reducible rfl
         rotate_left
         ·simp only [Act.put, List.setIfInBounds_toArray, List.set_cons_zero, List.set_cons_succ, i64_w, i32_w]
          rfl
         refine pure_ (i := 1) (N := some 19) (v := ?_) (a' := ?_) #[true, true, false, false, false, false, false, false, false, false, false, false, false, false, false, false] rfl rfl (any_of HT_.out (by kernel_rfl)) (fun _ _ _ h => h) (Or.inl ⟨by rfl, ?_⟩) ?_ ?_; rotate_left
         ·intro w'
          go_simp
          with_reducible rfl
         rotate_left
         ·simp only [Act.put, List.setIfInBounds_toArray, List.set_cons_zero, List.set_cons_succ, i64_w, i32_w]
          rfl
         refine pure_ (i := 2) (N := some 20) (v := ?_) (a' := ?_) #[true, true, true, false, false, false, false, false, false, false, false, false, false, false, false, false] rfl rfl (any_of HT_.out (by kernel_rfl)) (fun _ _ _ h => h) (Or.inl ⟨by rfl, ?_⟩) ?_ ?_; rotate_left
         ·intro w'
          go_simp
          with_reducible rfl
         rotate_left
         ·simp only [Act.put, List.setIfInBounds_toArray, List.set_cons_zero, List.set_cons_succ, i64_w, i32_w]
          rfl
         refine pure_ (i := 3) (N := some 21) (v := ?_) (a' := ?_) #[true, true, true, true, false, false, false, false, false, false, false, false, false, false, false, false] rfl rfl (any_of HT_.out (by kernel_rfl)) (fun _ _ _ h => h) (Or.inl ⟨by rfl, ?_⟩) ?_ ?_; rotate_left
         ·intro w'
          go_simp
          with_reducible rfl
         rotate_left
         ·simp only [Act.put, List.setIfInBounds_toArray, List.set_cons_zero, List.set_cons_succ, i64_w, i32_w]
          rfl
         refine pure_ (i := 4) (N := some 22) (v := ?_) (a' := ?_) #[true, true, true, true, true, false, false, false, false, false, false, false, false, false, false, false] rfl rfl (any_of HT_.out (by kernel_rfl)) (fun _ _ _ h => h) (Or.inl ⟨by rfl, ?_⟩) ?_ ?_; rotate_left
         ·intro w'
          go_simp
          with_reducible rfl
         rotate_left
         ·simp only [Act.put, List.setIfInBounds_toArray, List.set_cons_zero, List.set_cons_succ, i64_w, i32_w]
          rfl
         refine pure_ (i := 6) (N := some 24) (v := ?_) (a' := ?_) #[true, true, true, true, true, false, true, false, false, false, false, false, false, false, false, false] rfl rfl (any_of HT_.out (by kernel_rfl)) (fun _ _ _ h => h) (Or.inl ⟨by rfl, ?_⟩) ?_ ?_; rotate_left
         ·intro w'
          go_simp
          with_reducible rfl
         rotate_left
         ·simp only [Act.put, List.setIfInBounds_toArray, List.set_cons_zero, List.set_cons_succ, i64_w, i32_w]
          rfl
         refine pure_ (i := 7) (N := some 25) (v := ?_) (a' := ?_) #[true, true, true, true, true, false, true, true, false, false, false, false, false, false, false, false] rfl rfl (any_of HT_.out (by kernel_rfl)) (fun _ _ _ h => h) (Or.inl ⟨by rfl, ?_⟩) ?_ ?_; rotate_left
         ·intro w'
          go_simp
          with_reducible rfl
         rotate_left
         ·simp only [Act.put, List.setIfInBounds_toArray, List.set_cons_zero, List.set_cons_succ, i64_w, i32_w]
          rfl
         refine pure_ (i := 8) (N := some 26) (v := ?_) (a' := ?_) #[true, true, true, true, true, false, true, true, true, false, false, false, false, false, false, false] rfl rfl (any_of HT_.out (by kernel_rfl)) (fun _ _ _ h => h) (Or.inl ⟨by rfl, ?_⟩) ?_ ?_; rotate_left
         ·intro w'
          go_simp
          with_reducible rfl
         rotate_left
         ·simp only [Act.put, List.setIfInBounds_toArray, List.set_cons_zero, List.set_cons_succ, i64_w, i32_w]
          rfl
         refine pure_ (i := 9) (N := some 27) (v := ?_) (a' := ?_) #[true, true, true, true, true, false, true, true, true, true, false, false, false, false, false, false] rfl rfl (any_of HT_.out (by kernel_rfl)) (fun _ _ _ h => h) (Or.inl ⟨by rfl, ?_⟩) ?_ ?_; rotate_left
         ·intro w'
          go_simp
          with_reducible rfl
         rotate_left
         ·simp only [Act.put, List.setIfInBounds_toArray, List.set_cons_zero, List.set_cons_succ, i64_w, i32_w]
          rfl
         refine take_ (i := 5) (N := some 23) (v := ?_) (a' := ?_) #[true, true, true, true, true, true, true, true, true, true, false, false, false, false, false, false] rfl rfl (take_ofW HT_.out HW_.out (by kernel_rfl)) (fun _ _ _ h => h) (Or.inl ⟨by rfl, ?_⟩) hHeld ?_ ?_; rotate_left
         ·rintro w' ⟨s0, s1⟩
          go_simp
          with_reducible rfl
         rotate_left
         ·simp only [Act.put, List.setIfInBounds_toArray, List.set_cons_zero, List.set_cons_succ, i64_w, i32_w]
          rfl
         refine take_ (i := 10) (N := some 28) (v := ?_) (a' := ?_) #[true, true, true, true, true, true, true, true, true, true, true, false, false, false, false, false] rfl rfl (take_ofW HT_.out HW_.out (by kernel_rfl)) (fun _ _ _ h => h) (Or.inl ⟨by rfl, ?_⟩) hHeld ?_ ?_; rotate_left
         ·rintro w' ⟨s0, s1⟩
          go_simp
          with_reducible rfl
         rotate_left
         ·simp only [Act.put, List.setIfInBounds_toArray, List.set_cons_zero, List.set_cons_succ, i64_w, i32_w]
          rfl
         refine one_ (i := 11) (N := some 29) #[true, true, true, true, true, true, true, true, true, true, true, true, false, false, false, false] rfl rfl (one_of HT_.out (by kernel_rfl)) (by decide) (fun K hK => ?_); refine goes_ Try.func167 (by kernel_rfl) rfl #[.int .i64 a2, .int .i64 (rd l1 x8_1)] (by rfl) rfl rfl mp_ ?_
         with_reducible refine (signatoryref09_Mul.calls a2 (rd l1 x8_1) t208 _ A11.out).mono ?_
         rintro e w' ⟨rfl, ⟨nd, rfl⟩⟩; refine ⟨_, rfl, ?_⟩; refine hK.out _ _ ⟨((HB.out.cell (World.block_lt_of_cell? w _ hw206_0)).trans hw206_0), ((HB.out.cell (World.block_lt_of_cell? w _ hw207_0)).trans hw207_0)⟩ (fun hHeld => ?_); clear hK K; refine norm_ (a' := ?_) ?_ ?_; rotate_left
         ·show Act.put _ (some 29) _ = _
          simp only [Act.put, List.setIfInBounds_toArray, List.set_cons_zero, List.set_cons_succ, i64_w, i32_w]; rfl
         refine pure_ (i := 12) (N := some 30) (v := ?_) (a' := ?_) #[true, true, true, true, true, true, true, true, true, true, true, true, true, false, false, false] rfl rfl (any_of HT_.out (by kernel_rfl)) (fun _ _ _ h => h) (Or.inl ⟨by rfl, ?_⟩) ?_ ?_; rotate_left
         ·intro w'
          go_simp
          with_reducible rfl
         rotate_left
         ·simp only [Act.put, List.setIfInBounds_toArray, List.set_cons_zero, List.set_cons_succ, i64_w, i32_w]
          rfl
         refine one_ (i := 13) (N := some 31) #[true, true, true, true, true, true, true, true, true, true, true, true, true, true, false, false] rfl rfl (one_of HT_.out (by kernel_rfl)) (by decide) (fun K hK => ?_); refine goes_ Try.func166 (by kernel_rfl) rfl #[.int .i64 (rd l0 x8_1), .int .i64 (wrap64 (-t208))] (by rfl) rfl rfl mp_ ?_
         with_reducible refine (signatoryref09_Add.calls (rd l0 x8_1) (wrap64 (-t208)) t209 _ A12.out).mono ?_
         rintro e w' ⟨rfl, ⟨nd, rfl⟩⟩; refine ⟨_, rfl, ?_⟩; have p14 : 0 ≤ (x8_1 : Int) := of_decide_eq_true as_; have q14 : (x8_1 : Int) < ((x7_1.length : Int) : Int) := of_decide_eq_true as_; obtain ⟨go14, co14, eo14, gb14, gl14, cl14, HG14⟩ := Kd.R_form HO_7.out (by omega)
         (first | cases eo14 | (injection eo14 with ea_ en_ ec_; (first | subst ea_ | (injection ea_ with ea_; subst ea_)); subst ec_; clear en_))
         have GB14 := Aside0.mk gb14; have GG14 := Aside0.mk HG14; clear gb14 gl14 HG14; obtain ⟨hx14_0, hf14_0⟩ := Kd.R_celln 0 HO_7.out (x8_1 : Int) p14 q14; replace p14 := eq_true p14; replace q14 := eq_true q14; have HP16 := Kd.R_putn HO_7.out (x8_1 : Int) t209; rw [← Ny210.out] at HP16; have HQ16 := Aside0.mk HP16; clear HP16; refine hK.out _ _ ⟨((HB.out.cell (World.block_lt_of_cell? w _ hw206_0)).trans hw206_0), ((HB.out.cell (World.block_lt_of_cell? w _ hw207_0)).trans hw207_0)⟩ (fun hHeld => ?_); clear hK K; refine norm_ (a' := ?_) ?_ ?_; rotate_left
         ·show Act.put _ (some 31) _ = _
          simp only [Act.put, List.setIfInBounds_toArray, List.set_cons_zero, List.set_cons_succ, i64_w, i32_w]; rfl
         refine pure_ (i := 14) (N := some 32) (v := ?_) (a' := ?_) #[true, true, true, true, true, true, true, true, true, true, true, true, true, true, true, false] rfl rfl (any_of HT_.out (by kernel_rfl)) (fun _ _ _ h => h) (Or.inl ⟨by rfl, ?_⟩) ?_ ?_; rotate_left
         ·intro w'
          go_simp
          with_reducible rfl
         rotate_left
         ·simp only [Act.put, List.setIfInBounds_toArray, List.set_cons_zero, List.set_cons_succ, i64_w, i32_w]
          rfl
         refine last_ (i := 15) (N := none) #[true, true, true, true, true, true, true, true, true, true, true, true, true, true, true, true] rfl rfl (one_of HT_.out (by kernel_rfl)) (by decide) (fun K hK => ?_); refine skip_ (w1 := ?_) (by rfl) rfl ?_ ?_; rotate_left
         ·go_simp
          rfl
         refine hK.out _ _ ?_; clear hK K; refine done_ (done_of HT_.out (by kernel_rfl)) ?_
         try go_wp2
         go_roundg k1
         case measure => have := HK1.out; omega
         case rel => exact ⟨(y210), (wrap64 (x8_1 + 1)), rf_, H', ⟨by have := HK1.out; omega⟩, ⟨rr_ HQ16.out⟩, ⟨by repeat (first | (with_reducible first | exact HB.out | apply below_alloc | apply pw_below_drewN | apply below_drew1 | refine below_set ?_ GB14.out) | exact HB.out)⟩⟩
        ·rw [if_neg c13] at H
         exact absurd H (by simp)
       ·rw [if_neg c10] at H
        exact absurd H (by simp)
      ·rw [if_neg c9] at H
       exact absurd H (by simp)
     ·rw [if_neg c8] at H
      have c8b0 : decide (x8_1 < (l0.length : Int)) = false := decide_eq_false c8; clear c8; obtain rfl := Option.some.inj H; go_wp2
      go_ret
      exact ⟨_, by first | rfl | (simp [errW_none, errW_some] <;> rfl) | (simp [*, errW_none, errW_some] <;> rfl), rr_ HO_7.out, by repeat (first | (with_reducible first | exact HB.out | apply below_alloc | apply pw_below_drewN | apply below_drew1) | exact HB.out)⟩
  ·rw [if_neg c5] at H
   exact absurd H (by simp)
 ·rw [if_neg c4] at H
  exact absurd H (by simp)
def signatoryref13_times.f (k : Nat) (l0 : List Int) (a1 : Int) : Option (List Int) := if 0 ≤ (l0.length : Int) then (if ((l0.length : Int) : Int).toNat ≤ 35184372088832 then ((signatoryref13_less.f k (List.replicate ((l0.length : Int) : Int).toNat 0) l0 (wrap64 (-a1))).bind fun t214 => (some t214)) else (none)) else (none)
set_option maxHeartbeats 8000000 in
set_option maxRecDepth 100000 in
theorem signatoryref13_times.calls (k : Nat) (A0 : Option Addr) (c0 : Nat) (l0 : List Int) (a1 : Int) (r : List Int) (w : World) (hr0 : Kd.C (Kd.int .i64) w A0 l0.length l0) (hc0 : l0.length ≤ c0) (h : signatoryref13_times.f k l0 a1 = some r) :
  Calls Try.prog 201 #[.slice A0 l0.length c0, .int .i64 a1] w fun e w' => ∃ v0_ : Value, e = .returned (v0_) ∧ Kd.R (Kd.int .i64) 3 w' w.heap.size (fun _ => True) v0_ r ∧ Below w.heap.size w w' := by
 have HR0 := Aside0.mk hr0; have HC0 := Aside0.mk hc0; clear hr0 hc0; have HB := Aside0.mk (Below.refl w.heap.size w); have H : (if 0 ≤ (l0.length : Int) then (if ((l0.length : Int) : Int).toNat ≤ 35184372088832 then ((signatoryref13_less.f k (List.replicate ((l0.length : Int) : Int).toNat 0) l0 (wrap64 (-a1))).bind fun t214 => (some t214)) else (none)) else (none)) = some r := h; clear h
 by_cases c3 : 0 ≤ (l0.length : Int)
 ·rw [if_pos c3] at H
  have c3b0 := eq_true c3; have c3b1 : decide (0 ≤ (l0.length : Int)) = true := decide_eq_true c3; clear c3
  by_cases c4 : ((l0.length : Int) : Int).toNat ≤ 35184372088832
  ·rw [if_pos c4] at H
   have c4b0 := eq_true c4; have c4b1 : decide (((l0.length : Int) : Int).toNat ≤ 35184372088832) = true := decide_eq_true c4; clear c4
   obtain ⟨y211, hy211⟩ : ∃ y_ : List Int, y_ = (List.replicate ((l0.length : Int) : Int).toNat 0) := ⟨_, rfl⟩
   replace H : ((signatoryref13_less.f k y211 l0 (wrap64 (-a1))).bind fun t214 => (some t214)) = some r := by first | (rw [hy211]; with_reducible exact H) | (have H2_ := (Option.bind_some _ _).symm.trans H; rw [hy211]; with_reducible exact H2_) | (have H2_ := (Option.bind_some _ _).symm.trans H; with_reducible exact H2_) | with_reducible exact H | (rw [hy211]; exact H) | exact H
   have Ny211 := Aside0.mk hy211; clear hy211; replace H := Option.bind_eq_some_iff.mp H; obtain ⟨t214, A50, H⟩ := H; replace H : (some t214) = some r := H; have A5 := Aside0.mk A50; clear A50; obtain rfl := Option.some.inj H
   go_enter Try.func201, Try.ntmps201
   go_wp2_with (first | ((with_reducible refine gate_dst (N := 7) rfl ?_); refine Kd.R_make (Kd.int .i64) _ 3 rfl (N := 7) rfl 23 _ _ rfl (l0.length : Int) rfl rfl Try.underlying23 (.int .i64 0) 8 info3 rfl (by decide) (by omega) 0 (ok := fun _ => True) (okp := fun _ => True) rfl (fun _ hk => hk) trivial (of_decide_eq_true as_) (Nat.le_trans (Nat.mul_le_mul_right _ (of_decide_eq_true as_ : (l0.length : Int).toNat ≤ 35184372088832)) (by omega)) (Below.refl _ _) (Nat.le_refl _) ?_; intro v212 w6 ho7 hb hg_ hnew_; clear hg_ hnew_; (first | rw [← Ny211.out] at ho7 | (simp only [Int.reduceToNat] at ho7; rw [← Ny211.out] at ho7)); have n0_ := Aside0.mk (Kd.R_lower ho7 (below_size hb_)); have n1_ := Aside0.mk (below_step hb_ hb); clear HB; have HO213 := n0_; have HB := n1_; clear n0_ n1_; clear hb ho7; obtain ⟨Ao8, co8, eo8⟩ := Kd.R_slice HO213.out; subst eo8) | ((with_reducible refine gate_callee (f := 202) rfl ?_); refine goesL_ (some 11) rfl rfl Try.func202 (by kernel_rfl) rfl #[.slice Ao8 y211.length co8, .slice A0 l0.length c0, .int .i64 (wrap64 (-a1))] rfl mp_ ?_; (with_reducible refine (signatoryref13_less.calls k _ _ y211 _ _ l0 (wrap64 (-a1)) t214 _ ?side1 ?side2 ?side3 ?side4 A5.out).mono ?_); (case side1 => repeat (first | exact (Kd.R_reads' HO213.out).2.2 | (with_reducible refine Kd.C_alloc ?_ _) | (with_reducible refine Kd.C_drewN ?_ _) | (with_reducible refine Kd.C_drew ?_))); (case side2 => exact (Kd.R_reads' HO213.out).2.1); (case side3 => exact cb_ (Kd.C_below HR0.out HB.out)); (case side4 => exact HC0.out); rintro e w9 ⟨v215, rfl, ho0, hb⟩; refine ⟨_, rfl, ?_⟩; have n0_ := Aside0.mk (Kd.R_elder' (rr_ HO213.out) (Kd.R_base ho0) hb); have n1_ := Aside0.mk (Kd.R_lower (Kd.R_new' ho0 (Kd.R_lt (rr_ HO213.out))) (below_size hb_)); have n2_ := Aside0.mk (below_step hb_ hb); clear HO213; clear HB; have HO213 := n0_; have HO216 := n1_; have HB := n2_; clear n0_ n1_ n2_; (try clear hb); (try clear hb2); (try clear hk); (try clear hi); (try clear ho0)))
   go_ret
   exact ⟨_, by first | rfl | (simp [errW_none, errW_some] <;> rfl) | (simp [*, errW_none, errW_some] <;> rfl), by (with_reducible repeat (first | apply Kd.R_alloc | apply Kd.R_drewN | apply Kd.R_drew)); exact Kd.R_mono HO216.out (fun _ hk => trivial), by repeat (first | (with_reducible first | exact HB.out | apply below_alloc | apply pw_below_drewN | apply below_drew1) | exact HB.out)⟩
  ·rw [if_neg c4] at H
   exact absurd H (by simp)
 ·rw [if_neg c3] at H
  exact absurd H (by simp)
mutual
def signatoryref13_Turned.l0 : Nat → List (List Int) → Int → List (List Int) → Int → Option ((List (List Int)))
 | 0, _, _, _, _ => none
 | k + 1, x0, x1, x5, x6 => if x6 < x1 then (signatoryref13_Turned.l1 k x0 x1 x5 x6 (([] : List Int)) 0) else (some x5)
def signatoryref13_Turned.l1 : Nat → List (List Int) → Int → List (List Int) → Int → List Int → Int → Option ((List (List Int)))
 | 0, _, _, _, _, _, _ => none
 | k + 1, x0, x1, x5, x6, x7, x8 => if x8 < (x0.length : Int) then (if 0 ≤ x8 then (if 0 ≤ x6 then (if x6 < ((rd_L1 x0 x8).length : Int) then (if x7.length < 17592186044416 then (signatoryref13_Turned.l1 k x0 x1 x5 x6 (x7 ++ [rd (rd_L1 x0 x8) x6]) (wrap64 (x8 + 1))) else (none)) else (none)) else (none)) else (none)) else (if x5.length < 5864062014805 then (signatoryref13_Turned.l0 k x0 x1 (x5 ++ [x7]) (wrap64 (x6 + 1))) else (none))
end
def signatoryref13_Turned.f (k : Nat) (l0 : List (List Int)) (a1 : Int) : Option ((List (List Int))) := signatoryref13_Turned.l0 k l0 a1 (([] : List (List Int))) 0
set_option maxHeartbeats 8000000 in
set_option maxRecDepth 100000 in
theorem signatoryref13_Turned.calls (k : Nat) (A0 : Option Addr) (c0 : Nat) (l0 : List (List Int)) (a1 : Int) (r : List (List Int)) (w : World) (hr0 : Kd.C (Kd.slice 3 (Kd.int .i64)) w A0 l0.length l0) (hc0 : l0.length ≤ c0) (h : signatoryref13_Turned.f k l0 a1 = some r) :
  Calls Try.prog 173 #[.slice A0 l0.length c0, .int .i64 a1] w fun e w' => ∃ v0_ : Value, e = .returned (v0_) ∧ Kd.S (Kd.slice 3 (Kd.int .i64)) 23 w' w.heap.size (fun _ => True) v0_ r ∧ Below w.heap.size w w' := by
 have HR0 := Aside0.mk hr0; have HC0 := Aside0.mk hc0; clear hr0 hc0; have HB := Aside0.mk (Below.refl w.heap.size w); have H : (signatoryref13_Turned.l0 k l0 a1 (([] : List (List Int))) 0) = some r := h; clear h
 obtain ⟨y217, hy217⟩ : ∃ y_ : List (List Int), y_ = (([] : List (List Int))) := ⟨_, rfl⟩
 replace H : (signatoryref13_Turned.l0 k l0 a1 y217 0) = some r := by first | (rw [hy217]; with_reducible exact H) | (have H2_ := (Option.bind_some _ _).symm.trans H; rw [hy217]; with_reducible exact H2_) | (have H2_ := (Option.bind_some _ _).symm.trans H; with_reducible exact H2_) | with_reducible exact H | (rw [hy217]; exact H) | exact H
 have Ny217 := Aside0.mk hy217; clear hy217; have H' := Aside0.mk H; clear H
 go_enter Try.func173, Try.ntmps173
 go_wp2_with (first | ((with_reducible refine gate_dst (N := 9) rfl ?_); refine Kd.S_lit (Kd.slice 3 (Kd.int .i64)) _ 23 ?hg (N := 9) ?hd (xs := ([] : List (List Int))) (inner := []) (ok := fun _ => True) (okp := fun _ => True) ?hr ?hp (fun _ hk => hk) trivial (Below.refl _ _) (Nat.le_refl _) (by simp) ?_; (case hd => rfl); (case hg => rfl); (case hr => first | (go_simp; done) | (go_simp; rfl)); (case hp => exact (Reps.none _ _)); intro v218 w3 ho4 hb hg_ hnew_; clear hg_ hnew_; (first | rw [← Ny217.out] at ho4 | (simp only [Int.reduceToNat] at ho4; rw [← Ny217.out] at ho4)); have n0_ := Aside0.mk (Kd.S_lower ho4 (below_size hb_)); have n1_ := Aside0.mk (below_step hb_ hb); clear HB; have HO219 := n0_; have HB := n1_; clear n0_ n1_; clear hb ho4))
 go_loopg [5, 6] k (fun kq v5 v6 w' => ∃ (x5_1 : List (List Int)) (x6_1 : Int), v6 = .int .i64 x6_1 ∧ Aside0 (signatoryref13_Turned.l0 kq l0 a1 x5_1 x6_1 = some r) ∧ Aside0 (kq ≤ k) ∧ Aside0 (Kd.S (Kd.slice 3 (Kd.int .i64)) 23 w' w.heap.size (fun _ => True) v5 x5_1) ∧ Aside0 (Below w.heap.size w w'))
 case atStart => exact ⟨(y217), (0), rf_, H', ⟨Nat.le_refl _⟩, ⟨rs_ HO219.out⟩, ⟨hb_⟩⟩
 case round =>
  clear H'; (try clear c1); (try clear p2); obtain ⟨x5_1, x6_1, rfl, HA, HK1, HO_5, HB⟩ := hrel
  cases gk with
  | zero => exact absurd HA.out (by simp [signatoryref13_Turned.l0])
  | succ k1 =>
   have H := HA.out; clear HA; simp only [signatoryref13_Turned.l0] at H
   by_cases c5 : x6_1 < a1
   ·rw [if_pos c5] at H
    have c5b0 : decide (x6_1 < a1) = true := decide_eq_true c5; clear c5
    obtain ⟨y220, hy220⟩ : ∃ y_ : List Int, y_ = (([] : List Int)) := ⟨_, rfl⟩
    replace H : (signatoryref13_Turned.l1 k1 l0 a1 x5_1 x6_1 y220 0) = some r := by first | (rw [hy220]; with_reducible exact H) | (have H2_ := (Option.bind_some _ _).symm.trans H; rw [hy220]; with_reducible exact H2_) | (have H2_ := (Option.bind_some _ _).symm.trans H; with_reducible exact H2_) | with_reducible exact H | (rw [hy220]; exact H) | exact H
    have Ny220 := Aside0.mk hy220; clear hy220; have H' := Aside0.mk H; clear H; go_wp2_with (first | ((with_reducible refine gate_dst (N := 15) rfl ?_); refine Kd.R_lit (Kd.int .i64) _ 3 ?hg (N := 15) ?hd (xs := ([] : List Int)) (inner := []) (ok := fun _ => True) (okp := fun _ => True) ?hr ?hp (fun _ hk => hk) trivial (Below.refl _ _) (Nat.le_refl _) (by simp) ?_; (case hd => rfl); (case hg => rfl); (case hr => first | (go_simp; done) | (go_simp; rfl)); (case hp => exact (Reps.none _ _)); intro v221 w6 ho7 hb hg_ hnew_; clear hg_ hnew_; (first | rw [← Ny220.out] at ho7 | (simp only [Int.reduceToNat] at ho7; rw [← Ny220.out] at ho7)); have n0_ := Aside0.mk (Kd.S_elder' (rs_ HO_5.out) (Kd.R_base ho7) hb); have n1_ := Aside0.mk (Kd.R_lower ho7 (below_size hb_)); have n2_ := Aside0.mk (below_step hb_ hb); clear HO_5; clear HB; have HO_5 := n0_; have HO222 := n1_; have HB := n2_; clear n0_ n1_ n2_; clear hb ho7))
    go_loopg [7, 8] k1 (fun kq v7 v8 w' => ∃ (x7_2 : List Int) (x8_2 : Int), v8 = .int .i64 x8_2 ∧ Aside0 (signatoryref13_Turned.l1 kq l0 a1 x5_1 x6_1 x7_2 x8_2 = some r) ∧ Aside0 (kq ≤ k1) ∧ Aside0 (Kd.S (Kd.slice 3 (Kd.int .i64)) 23 w' w.heap.size (fun k_ => some k_ ≠ (v7 : Value).ownBlock) u5 x5_1) ∧ Aside0 (Kd.R (Kd.int .i64) 3 w' w.heap.size (fun _ => True) v7 x7_2) ∧ Aside0 (Below w.heap.size w w'))
    case atStart => exact ⟨(y220), (0), rf_, H', ⟨Nat.le_refl _⟩, ⟨by (with_reducible repeat (first | apply Kd.S_alloc | apply Kd.S_drewN | apply Kd.S_drew)); exact Kd.S_mono HO_5.out (fun _ hk => hk.2)⟩, ⟨rr_ HO222.out⟩, ⟨hb_⟩⟩
    case round =>
     clear H'; (try clear c1); (try clear p2); (try clear c5); (try clear c5b0); (try clear p2); obtain ⟨x7_2, x8_2, rfl, HA, HK2, HO_5, HO_7, HB⟩ := hrel
     cases gk with
     | zero => exact absurd HA.out (by simp [signatoryref13_Turned.l1])
     | succ k2 =>
      have H := HA.out; clear HA; simp only [signatoryref13_Turned.l1] at H
      by_cases c8 : x8_2 < (l0.length : Int)
      ·rw [if_pos c8] at H
       have c8b0 : decide (x8_2 < (l0.length : Int)) = true := decide_eq_true c8; clear c8
       by_cases c9 : 0 ≤ x8_2
       ·rw [if_pos c9] at H
        have c9b0 : decide (0 ≤ x8_2) = true := decide_eq_true c9; clear c9
        by_cases c10 : 0 ≤ x6_1
        ·rw [if_pos c10] at H
         have c10b0 : decide (0 ≤ x6_1) = true := decide_eq_true c10; clear c10
         by_cases c11 : x6_1 < ((rd_L1 l0 x8_2).length : Int)
         ·rw [if_pos c11] at H
          have c11b0 : decide (x6_1 < ((rd_L1 l0 x8_2).length : Int)) = true := decide_eq_true c11; clear c11
          by_cases c12 : x7_2.length < 17592186044416
          ·rw [if_pos c12] at H
           have LMc12 := Aside0.mk c12; clear c12
           obtain ⟨y225, hy225⟩ : ∃ y_ : List Int, y_ = (x7_2 ++ [rd (rd_L1 l0 x8_2) x6_1]) := ⟨_, rfl⟩
           replace H : (signatoryref13_Turned.l1 k2 l0 a1 x5_1 x6_1 y225 (wrap64 (x8_2 + 1))) = some r := by first | (rw [hy225]; with_reducible exact H) | (have H2_ := (Option.bind_some _ _).symm.trans H; rw [hy225]; with_reducible exact H2_) | (have H2_ := (Option.bind_some _ _).symm.trans H; with_reducible exact H2_) | with_reducible exact H | (rw [hy225]; exact H) | exact H
           have Ny225 := Aside0.mk hy225; clear hy225; have H' := Aside0.mk H; clear H; have p223 : 0 ≤ (x8_2 : Int) := of_decide_eq_true as_; have q223 : x8_2 < (l0.length : Int) := of_decide_eq_true as_; obtain ⟨ad223, A223_0, c223_0, e223, hx223_0, hl223_0, hi223_0⟩ := at_L1 HR0.out x8_2 p223 q223; cases e223; replace hx223_0 := (HB.out.cell (World.block_lt_of_cell? w _ hx223_0)).trans hx223_0; have HR223_0 := Aside0.mk hi223_0; have HC223_0 := Aside0.mk hl223_0; clear hi223_0 hl223_0; replace p223 := eq_true p223; replace q223 := eq_true q223; have p224 : 0 ≤ (x6_1 : Int) := of_decide_eq_true as_; have q224 : x6_1 < ((rd_L1 l0 x8_2).length : Int) := of_decide_eq_true as_; obtain ⟨ad224, e224, hx224_0⟩ := Kd.at_int HR223_0.out x6_1 p224 q224; cases e224; replace hx224_0 := (HB.out.cell (World.block_lt_of_cell? w _ hx224_0)).trans hx224_0; replace p224 := eq_true p224; replace q224 := eq_true q224; go_wp2_with (first | ((with_reducible refine gate_builtin (b := .append) (xs := #[.tmp 22, .tmp 30]) rfl ?_); at_builtin; refine Kd.R_append (Kd.int .i64) (w0 := w) w.heap.size rfl (.tmp 22) (.tmp 30) 23 3 (.int .i64 0) 8 rfl Try.underlying23 info3 rfl (by decide) (by omega) u7 x7_2 (rd (rd_L1 l0 x8_2) x6_1) [.int .i64 (rd (rd_L1 l0 x8_2) x6_1)] (fun _ => True) (fun _ => False) rfl rfl ?aP (fun _ hk => hk.elim) ?aF ?aO ?aB ?aS ?aL ?_; (case aP => exact rfl); (case aB => exact hb_); (case aF => exact (fun _ _ => trivial)); (case aO => exact (rr_ HO_7.out)); (case aS => exact (below_size hb_)); (case aL => have := LMc12.out; omega); intro v226 w13 ho hb hg hat; rw [← Ny225.out] at ho; have n0_ := Aside0.mk (Kd.S_after (ok := (fun _ => True)) (by (with_reducible repeat (first | apply Kd.S_alloc | apply Kd.S_drewN | apply Kd.S_drew)); exact Kd.S_mono HO_5.out (fun _ hk => ⟨trivial, hk⟩)) hg hat); have n1_ := Aside0.mk (hb); have n2_ := Aside0.mk (ho); clear HO_5; clear HB; clear HO_7; have HO_5 := n0_; have HB := n1_; have HO227 := n2_; clear n0_ n1_ n2_; clear ho hb hg hat))
           go_roundg k2
           case measure => have := HK1.out; have := HK2.out; omega
           case rel => exact ⟨(y225), (wrap64 (x8_2 + 1)), rf_, H', ⟨by have := HK1.out; have := HK2.out; omega⟩, ⟨by (with_reducible repeat (first | apply Kd.S_alloc | apply Kd.S_drewN | apply Kd.S_drew)); exact Kd.S_mono HO_5.out (fun _ hk => hk.2)⟩, ⟨rr_ HO227.out⟩, ⟨hb_⟩⟩
          ·rw [if_neg c12] at H
           exact absurd H (by simp)
         ·rw [if_neg c11] at H
          exact absurd H (by simp)
        ·rw [if_neg c10] at H
         exact absurd H (by simp)
       ·rw [if_neg c9] at H
        exact absurd H (by simp)
      ·rw [if_neg c8] at H
       have c8b0 : decide (x8_2 < (l0.length : Int)) = false := decide_eq_false c8; clear c8
       by_cases c14 : x5_1.length < 5864062014805
       ·rw [if_pos c14] at H
        have LMc14 := Aside0.mk c14; clear c14
        obtain ⟨y228, hy228⟩ : ∃ y_ : List (List Int), y_ = (x5_1 ++ [x7_2]) := ⟨_, rfl⟩
        replace H : (signatoryref13_Turned.l0 k2 l0 a1 y228 (wrap64 (x6_1 + 1))) = some r := by first | (rw [hy228]; with_reducible exact H) | (have H2_ := (Option.bind_some _ _).symm.trans H; rw [hy228]; with_reducible exact H2_) | (have H2_ := (Option.bind_some _ _).symm.trans H; with_reducible exact H2_) | with_reducible exact H | (rw [hy228]; exact H) | exact H
        have Ny228 := Aside0.mk hy228; clear hy228; have H' := Aside0.mk H; clear H; obtain ⟨Ao16, co16, eo16⟩ := Kd.R_slice HO_7.out; subst eo16; go_wp2_with (first | ((with_reducible refine gate_builtin (b := .append) (xs := #[.tmp 32, .tmp 34]) rfl ?_); at_builtin; refine Kd.S_append (Kd.slice 3 (Kd.int .i64)) (w0 := w) w.heap.size rfl (.tmp 32) (.tmp 34) 22 23 (.slice none 0 0) 24 rfl Try.underlying22 info23 rfl (by decide) (by omega) u5 x5_1 x7_2 [.slice Ao16 x7_2.length co16] (fun _ => True) (fun k_ => some k_ = (.slice Ao16 x7_2.length co16 : Value).ownBlock) rfl rfl ?aP (fun k_ hk_ => ((Kd.R_mono (ok' := fun k_ => ((fun _ => True)) k_ ∧ some k_ ≠ (u5 : Value).ownBlock) (Kd.R_apart' (HO_7.out) (Kd.S_typed HO_5.out) (by decide)) (fun k_ hk => ⟨trivial, hk.2⟩))).1 k_ hk_.symm) ?aF ?aO ?aB ?aS ?aL ?_; (case aP => exact Kd.M_row (Kd.R_mono (Kd.R_tight rfl (Kd.R_mono (ok' := fun k_ => ((fun _ => True)) k_ ∧ some k_ ≠ (u5 : Value).ownBlock) (Kd.R_apart' (HO_7.out) (Kd.S_typed HO_5.out) (by decide)) (fun k_ hk => ⟨trivial, hk.2⟩))) (fun _ h_ => h_))); (case aB => exact hb_); (case aF => exact (fun _ _ => trivial)); (case aO => exact (by (with_reducible repeat (first | apply Kd.S_alloc | apply Kd.S_drewN | apply Kd.S_drew)); exact Kd.S_mono HO_5.out (fun k_ hk => ⟨trivial, fun e_ => hk e_⟩))); (case aS => exact (below_size hb_)); (case aL => have := LMc14.out; omega); intro v229 w15 ho hb hg hat; rw [← Ny228.out] at ho; have n0_ := Aside0.mk (hb); have n1_ := Aside0.mk (ho); clear HB; clear HO_5; clear HO_7; have HB := n0_; have HO230 := n1_; clear n0_ n1_; clear ho hb hg hat))
        go_roundg k2
        case measure => have := HK1.out; have := HK2.out; omega
        case rel => exact ⟨(y228), (wrap64 (x6_1 + 1)), rf_, H', ⟨by have := HK1.out; have := HK2.out; omega⟩, ⟨rs_ HO230.out⟩, ⟨hb_⟩⟩
       ·rw [if_neg c14] at H
        exact absurd H (by simp)
   ·rw [if_neg c5] at H
    have c5b0 : decide (x6_1 < a1) = false := decide_eq_false c5; clear c5; obtain rfl := Option.some.inj H; go_wp2
    go_ret
    exact ⟨_, by first | rfl | (simp [errW_none, errW_some] <;> rfl) | (simp [*, errW_none, errW_some] <;> rfl), rs_ HO_5.out, by repeat (first | (with_reducible first | exact HB.out | apply below_alloc | apply pw_below_drewN | apply below_drew1) | exact HB.out)⟩
end Go.Proofs.Ytdbamhckgaoibaa.P
