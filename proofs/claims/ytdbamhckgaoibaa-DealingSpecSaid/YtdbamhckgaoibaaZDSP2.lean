/- A part of the proof of DealingSpec: WKept; WShare; WN; WEqStruct; WRepsOne; WGuard; WNEv; WMore; The kinds of values of this seat: how they are read and made.; Number theory in plain Nat: Gauss's lemma for any odd modulus, quadratic reciprocity in its form, Euler's criterion.; The calls of group.least, program.within, program.isPerson, dealing.columns, field.Mod come to what their functions in Lean say.; field.Mod is the remainder that is not negative.; The calls of field.sum, field.Mul, field.Add come to what their functions in Lean say.; Linear algebra modulo the prime 1073741789 in plain lists of whole numbers.; Gaussian elimination modulo 1073741789, in plain lists.; What the two questions about rows answer: a target made of rows, and a list that tells it apart from them; plain lists.; The field's calls (Mod, Mul, Inverse) answer what they mean modulo 1073741789.; group.Valid answers by the Jacobi symbol, which is Euler's criterion at the prime 2147483579.; A range over a function that yields known values, and whose body never leaves: the law of the statement, at the wide fence.; group.Pow raises to a power modulo 2147483579. -/
import Derived.Test.YtdbamhckgaoibaaZDSP1
import Derived.ArgAppend
import Derived.Below
import Derived.BigQuiet
import Derived.Deep.AppendLies
import Derived.Deep.CutBlock
import Derived.Deep.DeepCutAuto
import Derived.Deep.Draws
import Derived.Deep.LoopGhost
import Derived.Deep.OwnRows
import Derived.Deep.QuietTactic
import Derived.Deep.RegionHeld3
import Derived.KernelRfl
import Derived.Laws.BitsLemmas
import Derived.Laws.BytesArg
import Derived.Laws.IdiomCopy
import Derived.Laws.MakeOwn
import Derived.Laws.OwnMore
import Derived.Laws.Rows
import Derived.Laws.Slices
import Derived.Laws.StructEq
import Derived.Lib.AppendStr
import Derived.Lib.ConvBytes
import Derived.LoopIn
import Derived.LoopNIn
import Derived.Maps.AppendAt
import Derived.OrdersHeld
import Derived.OwnWalk
import Derived.OwnWalkIn
import Derived.RangeFuncBound
import Derived.RangeFuncCalls
import Derived.RangeFuncLeaves
import Derived.RangeFuncNested
import Derived.RangeFuncWrites
import Derived.RowKit
import Derived.RowKit3
import Derived.Shelf.Abstract
import Derived.Shelf.RegionOpen
import Derived.Sort.CutIn
import Derived.Sort.LoopGhostIn
import Derived.Tactics
import Derived.TacticsInMore
import Derived.WalkKit
import Derived.WideLaws
namespace Go.Proofs.YtdbamhckgaoibaaW.PrintWords
open Go.RowKit
def Kept (w W : World) (S : Nat → Prop) : Prop := w.heap.size ≤ W.heap.size ∧ ∀ i, i < w.heap.size → ¬ S i → W.heap[i]? = w.heap[i]?
section
variable {w W W2 : World} {S S2 S' : Nat → Prop}
theorem Kept.refl (w : World) (S : Nat → Prop) : Kept w w S := ⟨Nat.le_refl _, fun _ _ _ => rfl⟩
theorem Kept.of_below (h : Below w.heap.size w W) (S : Nat → Prop) : Kept w W S := ⟨h.size, fun i hi _ => h.block i hi⟩
theorem Kept.mono (h : Kept w W S) (hs : ∀ k, S k → S' k) : Kept w W S' := ⟨h.1, fun i hi hn => h.2 i hi (fun hk => hn (hs i hk))⟩
theorem Kept.then_ (h : Kept w W S) (k : Kept W W2 S2) (hs : ∀ k, S2 k → S k ∨ w.heap.size ≤ k) : Kept w W2 S :=
  ⟨Nat.le_trans h.1 k.1, fun i hi hn => (k.2 i (Nat.lt_of_lt_of_le hi h.1) (fun h2 => (hs i h2).elim hn (fun h3 => by omega))).trans (h.2 i hi hn)⟩
theorem Kept.below (h : Kept w W S) (hb : Below W.heap.size W W2) : Kept w W2 S := h.then_ (Kept.of_below hb (fun _ => False)) (fun _ hk => hk.elim)
theorem Kept.alloc (h : Kept w W S) (o : Obj) : Kept w (W.alloc o) S := h.below (below_alloc (Below.refl _ _) o)
theorem Kept.drew (h : Kept w W S) : Kept w W.drew S := h
theorem Kept.drewN (h : Kept w W S) (m : Nat) : Kept w (W.drewN m) S := h
theorem Kept.setCell (h : Kept w W S) {p : Addr} (hp : S p.block ∨ w.heap.size ≤ p.block) (u : Value) : Kept w (W.setCell p u) S :=
  h.then_ (S2 := fun k => k = p.block) ⟨by simp [World.setCell], fun i _ hn => Below.heap_setCell W p u i hn⟩ (fun k hk => by rw [hk]; exact hp)
theorem Kept.keep {g : Nat} (h : KeepBut w W g none) (k : Kept W W2 S2) (hs : ∀ k, S2 k → w.heap.size ≤ k) : KeepBut w W2 g none :=
  ⟨Nat.le_trans h.1 k.1, fun i hi hg hr => (k.2 i (Nat.lt_of_lt_of_le hi h.1) (fun h2 => by have := hs i h2; omega)).trans (h.2 i hi hg hr)⟩
theorem cell_kept {a : Addr} {v : Value} (hc : W.cell? a = some v) (hk : Kept W W2 S) (hne : ¬ S a.block) : W2.cell? a = some v := by
  have := hk.2 a.block (World.block_lt_of_cell? W a hc) hne
  simpa [World.cell?, this] using hc
end
namespace Kd
section
variable {α : Type} {d : Kd α} {e base n c : Nat} {ok oki S S2 : Nat → Prop} {w w0 W W1 W2 : World} {v : Value} {A : Option Addr} {xs : List α} {i : Int} {cs : List Value}
end
end Kd
end Go.Proofs.YtdbamhckgaoibaaW.PrintWords
namespace Go.Proofs.YtdbamhckgaoibaaW.PrintWords
open Go.RowKit
def Foot (P : World → Prop) (W : World) (ok : Nat → Prop) : Prop := ∀ W' : World, (∀ k, ok k → k < W.heap.size → W'.heap[k]? = W.heap[k]?) → P W'
theorem heap_lt {W W1 : World} {k : Nat} (h : W1.heap[k]? = W.heap[k]?) (hlt : k < W.heap.size) : k < W1.heap.size := by
  rw [Array.getElem?_eq_getElem hlt] at h; exact (Array.getElem?_eq_some_iff.1 h).1
namespace Foot
variable {P Q : World → Prop} {W W1 : World} {ok ok' : Nat → Prop}
theorem now (h : Foot P W ok) : P W := h W (fun _ _ _ => rfl)
theorem mono (h : Foot P W ok) (hok : ∀ k, ok k → ok' k) : Foot P W ok' := fun W' hW => h W' (fun k hk hlt => hW k (hok k hk) hlt)
theorem bound (h : Foot P W ok) : Foot P W (fun k => ok k ∧ k < W.heap.size) := fun W' hW => h W' (fun k hk hlt => hW k ⟨hk, hlt⟩ hlt)
theorem step (h : Foot P W ok) (hm : ∀ k, ok k → k < W.heap.size → W1.heap[k]? = W.heap[k]?) : Foot P W1 ok := fun W' hW => h W' (fun k hk hlt => (hW k hk (heap_lt (hm k hk hlt) hlt)).trans (hm k hk hlt))
theorem old (h : Foot P W ok) (hb : Below W.heap.size W W1) : Foot P W1 (fun k => ok k ∧ k < W.heap.size) := (h.bound).step (fun k _ hlt => hb.block k hlt)
end Foot
namespace Kd
def F {α : Type} (d : Kd α) (W : World) (ok : Nat → Prop) (A : Option Addr) (n : Nat) (xs : List α) : Prop := Foot (fun W => d.C W A n xs) W ok
def FK {α : Type} (d : Kd α) (W : World) (ok : Nat → Prop) (x : α) (c : List Value) : Prop := Foot (fun W => d.K W x c) W ok
section
variable {α β : Type} {d : Kd α} {e base n n' cc g N : Nat} {ok ok' okp S : Nat → Prop} {w w0 w1 W W1 : World} {A A' : Option Addr} {u v v1 : Value} {xs : List α} {xs' : List β} {d' : Kd β} {x : α} {c : List Value}
theorem F_now (h : F d W ok A n xs) : d.C W A n xs := Foot.now h
theorem F_mono (h : F d W ok A n xs) (hok : ∀ k, ok k → ok' k) : F d W ok' A n xs := Foot.mono h hok
theorem F_bound (h : F d W ok A n xs) : F d W (fun k => ok k ∧ k < W.heap.size) A n xs := Foot.bound h
theorem F_step (h : F d W ok A n xs) (hm : ∀ k, ok k → k < W.heap.size → W1.heap[k]? = W.heap[k]?) : F d W1 ok A n xs := Foot.step h hm
theorem F_below (h : F d W ok A n xs) (hb : Below W.heap.size W W1) : F d W1 ok A n xs := F_step h (fun k _ hlt => hb.block k hlt)
theorem F_alloc (h : F d W ok A n xs) (o : Obj) : F d (W.alloc o) ok A n xs := F_below h (below_alloc (Below.refl _ _) o)
theorem F_drew (h : F d W ok A n xs) : F d W.drew ok A n xs := F_below h (below_drew (Below.refl _ _))
theorem F_drewN (h : F d W ok A n xs) (m : Nat) : F d (W.drewN m) ok A n xs := F_below h (pw_below_drewN (Below.refl _ _) m)
theorem F_nil (d : Kd α) (W : World) (ok : Nat → Prop) : F d W ok none ([] : List α).length [] := fun W' _ => C_nil d W'
theorem F_elder' (h : F d W ok A n xs) (hbase : ∀ k, v.ownBlock = some k → W.heap.size ≤ k) (hb : Below W.heap.size W W1) : F d W1 (fun k => ok k ∧ some k ≠ v.ownBlock) A n xs :=
  F_mono (Foot.old h hb) (fun k hk => ⟨hk.1, fun he => by have := hbase k he.symm; have := hk.2; omega⟩)
theorem F_elderB (h : F d W ok A n xs) (a : Nat) (ha : W.heap.size ≤ a) : F d W (fun k => ok k ∧ k ≠ a) A n xs := F_mono (F_bound h) (fun k hk => ⟨hk.1, by have := hk.2; omega⟩)
theorem F_after (h : F d W (fun k => ok k ∧ some k ≠ v.ownBlock) A n xs) (hg : W.grownBy W1 v.ownBlock) (hat : v1.ownBlock = v.ownBlock ∨ ∃ b, v1.ownBlock = some b ∧ W.heap.size ≤ b) : F d W1 (fun k => ok k ∧ some k ≠ v1.ownBlock) A n xs := by
  refine F_mono (Foot.step (F_bound h) (fun k hk hlt => hg.block k hlt hk.1.2)) (fun k hk => ⟨hk.1.1, ?_⟩)
  rcases hat with hat | ⟨b, hb, hle⟩
  · rw [hat]; exact hk.1.2
  · rw [hb]
    intro he; injection he with he; have := hk.2; omega
theorem C_F (hd : Heap d) (h : d.C w A n xs) : F d w (fun k => k < w.heap.size) A n xs := fun _ hW => hd.C (fun k hlt => hW k hlt hlt) h
theorem R_F (h : d.R e W base ok (.slice A n cc) xs) : F d W ok A n xs := fun W' hW => by
  have h2 := R_reads' (R_step h hW); rw [h2.1]; exact h2.2.2
theorem FK_now (h : FK d W ok x c) : d.K W x c := Foot.now h
theorem FK_mono (h : FK d W ok x c) (hok : ∀ k, ok k → ok' k) : FK d W ok' x c := Foot.mono h hok
theorem FK_bound (h : FK d W ok x c) : FK d W (fun k => ok k ∧ k < W.heap.size) x c := Foot.bound h
theorem FK_step (h : FK d W ok x c) (hm : ∀ k, ok k → k < W.heap.size → W1.heap[k]? = W.heap[k]?) : FK d W1 ok x c := Foot.step h hm
theorem FK_of_M (h : d.M W base ok x c) : FK d W ok x c := fun _ hW => d.K_of_M (M_step h hW)
theorem emptied (W : World) (g : Nat) : ∃ W' : World, (∀ k, k ≠ g → W'.heap[k]? = W.heap[k]?) ∧ ∀ a : Addr, a.block = g → W'.cell? a = none := by
  refine ⟨{ W with heap := W.heap.setIfInBounds g (.cells #[] 0) }, fun k hk => by simp [Ne.symm hk], fun a ha => ?_⟩; subst ha
  by_cases hlt : a.block < W.heap.size
  · simp [World.cell?, hlt]
  · simp [World.cell?, hlt]
end
end Kd
end Go.Proofs.YtdbamhckgaoibaaW.PrintWords
namespace Go.Proofs.YtdbamhckgaoibaaW.PrintWords
open Go.RowKit
namespace Kd
def chunks (sz : Nat) (n : Nat) (inner : List Value) : List (List Value) := (List.range n).map fun j => (inner.drop (j * sz)).take sz
theorem chunks_length (sz n : Nat) (inner : List Value) : (chunks sz n inner).length = n := by simp [chunks]
theorem chunks_at {sz n : Nat} {inner : List Value} {j : Nat} (hj : j < n) : (chunks sz n inner)[j]? = some ((inner.drop (j * sz)).take sz) := by simp [chunks, hj]
theorem chunks_get {sz n : Nat} {inner : List Value} {j : Nat} {c : List Value} (h : (chunks sz n inner)[j]? = some c) : c = (inner.drop (j * sz)).take sz := by
  have hj : j < n := by have := (List.getElem?_eq_some_iff.1 h).1; rwa [chunks_length] at this
  rw [chunks_at hj] at h; injection h with h; exact h.symm
theorem reps_raw {α : Type} {Rr : α → List Value → Prop} {sz : Nat} {xs : List α} {inner : List Value} (h : Reps Rr sz xs inner) (hR : ∀ x c, Rr x c → c.length = sz ∧ ∀ u ∈ c, u.oneCell' = true) : Reps (fun x cs => cs = x ∧ cs.length = sz ∧ ∀ u ∈ cs, u.oneCell' = true) sz (chunks sz xs.length inner) inner := by
  refine ⟨by rw [chunks_length]; exact h.1, fun j p hj => ?_⟩
  have hjl : j < xs.length := by have := (List.getElem?_eq_some_iff.1 hj).1; rwa [chunks_length] at this
  have hp := chunks_get hj; exact ⟨hp.symm, hR _ _ (h.2 j _ (List.getElem?_eq_getElem hjl))⟩
section
variable {α : Type} {d : Kd α} {e base n cc g : Nat} {ok ok' okp S : Nat → Prop} {w w1 W W1 : World} {A : Option Addr} {u v v1 : Value} {xs : List α} {x : α} {c : List Value}
theorem F_get (h : F d W ok A n xs) (z : α) (i : Int) (h0 : 0 ≤ i) (h1 : i < n) :
    ∃ ad c, A = some ad ∧ c.length = d.sz ∧ FK d W ok (xs.getD i.toNat z) c ∧ (∀ j u, c[j]? = some u → W.cell? (ad.add (i.toNat * d.sz + j)) = some u) ∧ (0 < d.sz → ok ad.block) := by
  obtain ⟨ad, c, rfl, hcl, hK, hcc⟩ := C_get (F_now h) z i h0 h1
  have hin : 0 < d.sz → ok ad.block := by
    intro hs
    by_cases hk : ok ad.block
    · exact hk
    · obtain ⟨W', h2, h3⟩ := emptied W ad.block
      obtain ⟨ad', c', he, hcl', _, hcc'⟩ := C_get (h W' (fun k hk' _ => h2 k (fun e => hk (e ▸ hk')))) z i h0 h1; injection he with he; subst he; have h4 := hcc' 0 _ (List.getElem?_eq_getElem (by omega)); rw [h3 _ (add_block _ _)] at h4; cases h4
  refine ⟨ad, c, rfl, hcl, fun W' hW => ?_, hcc, hin⟩; obtain ⟨ad', c', he, hcl', hK', hcc'⟩ := C_get (h W' hW) z i h0 h1; injection he with he; subst he
  have hc : c = c' := by
    apply List.ext_getElem?
    intro j
    by_cases hj : j < d.sz
    · have hb : W'.heap[ad.block]? = W.heap[ad.block]? := by
        have h5 := hcc j _ (List.getElem?_eq_getElem (by omega)); have h6 := World.block_lt_of_cell? W _ h5; rw [add_block] at h6; exact hW _ (hin (by omega)) h6
      have h5 := hcc j _ (List.getElem?_eq_getElem (by omega)); have h6 := hcc' j _ (List.getElem?_eq_getElem (by omega))
      have h7 : W'.cell? (ad.add (i.toNat * d.sz + j)) = W.cell? (ad.add (i.toNat * d.sz + j)) := by simp [World.cell?, add_block, hb]
      rw [h7, h5] at h6; rw [List.getElem?_eq_getElem (by omega), List.getElem?_eq_getElem (by omega)]; exact h6
    · rw [List.getElem?_eq_none (by omega), List.getElem?_eq_none (by omega)]
  rw [hc]; exact hK'
theorem F_rows (h : F d W ok A n xs) : ReadsRow (fun x c => FK d W ok x c) d.sz W A n xs := by
  obtain ⟨hl, hm, hn⟩ := F_now h; refine ⟨hl, hm, fun hp => ?_⟩; obtain ⟨ad, rfl, _⟩ := hn hp; refine ⟨ad, rfl, fun j p hj => ?_⟩; obtain ⟨hjl, hjp⟩ := List.getElem?_eq_some_iff.1 hj; obtain ⟨ad', c, he, hcl, hK, hcc, _⟩ := F_get h p (j : Int) (by omega) (by omega); injection he with he; subst he; simp only [Int.toNat_natCast] at hK hcc; rw [List.getD_eq_getElem?_getD, hj] at hK; exact ⟨c, hcl, hK, hcc⟩
def N {α : Type} (d : Kd α) (e : Nat) (w : World) (base : Nat) (ok : Nat → Prop) (v : Value) (xs : List α) : Prop :=
  (∀ k, v.ownBlock = some k → ok k) ∧ ∃ rows : List (List Value), rows.length = xs.length ∧ (raw d.sz).R e w base (fun k => some k = v.ownBlock) v rows ∧ ∀ (j : Nat) (x : α) (c : List Value), xs[j]? = some x → rows[j]? = some c → FK d w (fun k => ok k ∧ some k ≠ v.ownBlock) x c
theorem raw_tight {sz : Nat} {rows : List (List Value)} (h : (raw sz).R e w base ok v rows) : (raw sz).R e w base (fun k => some k = v.ownBlock) v rows := R_tight rfl h
theorem raw_any {sz : Nat} {rows : List (List Value)} (h : (raw sz).R e w base ok v rows) : (raw sz).R e w base (fun _ => True) v rows := R_mono h (fun _ _ => trivial)
theorem R_N (h : d.R e w base ok v xs) : N d e w base ok v xs := by
  obtain ⟨h0, inner, ho, hr⟩ := h; refine ⟨h0, chunks d.sz xs.length inner, chunks_length _ _ _, ⟨fun k hk => hk.symm, inner, by rw [chunks_length]; exact ho, reps_raw hr (fun x c hp => ⟨d.K_len (d.K_of_M hp), d.K_one (d.K_of_M hp)⟩)⟩, fun j x c hx hc => ?_⟩; rw [chunks_get hc]; exact FK_of_M (hr.2 j x hx)
theorem N_nil (d : Kd α) (e : Nat) (w : World) (base : Nat) (ok : Nat → Prop) : N d e w base ok (.slice none 0 0) [] := R_N (R_nil _ _ _ _ _)
theorem N_mono (h : N d e w base ok v xs) (hok : ∀ k, ok k → ok' k) : N d e w base ok' v xs := by
  obtain ⟨h0, rows, hl, hR, hf⟩ := h; exact ⟨fun k hk => hok k (h0 k hk), rows, hl, hR, fun j x c hx hc => FK_mono (hf j x c hx hc) (fun k hk => ⟨hok k hk.1, hk.2⟩)⟩
theorem N_lt (h : N d e w base ok v xs) : ∀ k, v.ownBlock = some k → k < w.heap.size := by
  obtain ⟨_, rows, _, hR, _⟩ := h; exact R_lt hR
theorem N_base (h : N d e w base ok v xs) : ∀ k, v.ownBlock = some k → base ≤ k := by
  obtain ⟨_, rows, _, hR, _⟩ := h; exact R_base hR
theorem N_typed (h : N d e w base ok v xs) : ∀ k, v.ownBlock = some k → ∃ cells, w.heap[k]? = some (.cells cells e (0, 0)) := by
  obtain ⟨_, rows, _, hR, _⟩ := h; exact R_typed hR
theorem N_ne (h : N d e w base ok v xs) {t : Nat} {cells : Array Value} (hb : w.heap[g]? = some (.cells cells t (0, 0))) (ht : e ≠ t) : some g ≠ v.ownBlock := by
  obtain ⟨_, rows, _, hR, _⟩ := h; exact R_ne hR hb ht
theorem N_bound (h : N d e w base ok v xs) : N d e w base (fun k => ok k ∧ k < w.heap.size) v xs := by
  have hlt := N_lt h; obtain ⟨h0, rows, hl, hR, hf⟩ := h; exact ⟨fun k hk => ⟨h0 k hk, hlt k hk⟩, rows, hl, hR, fun j x c hx hc => FK_mono (FK_bound (hf j x c hx hc)) (fun k hk => ⟨⟨hk.1.1, hk.2⟩, hk.1.2⟩)⟩
theorem N_lower {base' : Nat} (h : N d e w base ok v xs) (hb : base' ≤ base) : N d e w base' ok v xs := by
  obtain ⟨h0, rows, hl, hR, hf⟩ := h; exact ⟨h0, rows, hl, R_lower hR hb, hf⟩
theorem N_step (h : N d e w base ok v xs) (hm : ∀ k, ok k → k < w.heap.size → w1.heap[k]? = w.heap[k]?) : N d e w1 base ok v xs := by
  obtain ⟨h0, rows, hl, hR, hf⟩ := h; exact ⟨h0, rows, hl, R_step hR (fun k hk hlt => hm k (h0 k hk.symm) hlt), fun j x c hx hc => FK_step (hf j x c hx hc) (fun k hk hlt => hm k hk.1 hlt)⟩
theorem N_below (h : N d e w base ok v xs) (hb : Below w.heap.size w w1) : N d e w1 base ok v xs := N_step h (fun k _ hk => hb.block k hk)
theorem N_alloc (h : N d e w base ok v xs) (o : Obj) : N d e (w.alloc o) base ok v xs := N_below h (below_alloc (Below.refl _ _) o)
theorem N_drew (h : N d e w base ok v xs) : N d e w.drew base ok v xs := N_below h (below_drew (Below.refl _ _))
theorem N_drewN (h : N d e w base ok v xs) (m : Nat) : N d e (w.drewN m) base ok v xs := N_below h (pw_below_drewN (Below.refl _ _) m)
theorem N_far (h : N d e w base ok v xs) {p : Addr} (hok : ∀ k, ok k → k ≠ p.block) (u : Value) : N d e (w.setCell p u) base ok v xs := N_step h (fun k ho _ => Below.heap_setCell w p u k (hok k ho))
theorem N_elder' (h : N d e W base ok v xs) (hbase : ∀ k, u.ownBlock = some k → W.heap.size ≤ k) (hb : Below W.heap.size W w1) : N d e w1 base (fun k => ok k ∧ some k ≠ u.ownBlock) v xs :=
  N_mono (N_below (N_bound h) hb) (fun k hk => ⟨hk.1, fun he => by have := hbase k he.symm; have := hk.2; omega⟩)
theorem N_after (h : N d e W base (fun k => ok k ∧ some k ≠ u.ownBlock) v xs) {u1 : Value} (hg : W.grownBy w1 u.ownBlock) (hat : u1.ownBlock = u.ownBlock ∨ ∃ b, u1.ownBlock = some b ∧ W.heap.size ≤ b) : N d e w1 base (fun k => ok k ∧ some k ≠ u1.ownBlock) v xs := by
  refine N_mono (N_step (N_bound h) (fun k hk hlt => hg.block k hlt hk.1.2)) (fun k hk => ⟨hk.1.1, ?_⟩)
  rcases hat with hat | ⟨b, hb, hle⟩
  · rw [hat]; exact hk.1.2
  · rw [hb]
    intro he; injection he with he; have := hk.2; omega
theorem N_slice (h : N d e w base ok v xs) : ∃ A c, v = .slice A xs.length c := by
  obtain ⟨_, rows, hl, hR, _⟩ := h; obtain ⟨A, c, he⟩ := R_slice hR; exact ⟨A, c, by rw [he, hl]⟩
theorem N_form (h : N d e w base ok v xs) (hp : 0 < xs.length) : ∃ g cap, v = .slice (some ⟨g, 0, none⟩) xs.length cap ∧ base ≤ g ∧ g < w.heap.size ∧ ∃ cells, w.heap[g]? = some (.cells cells e (0, 0)) := by
  obtain ⟨_, rows, hl, hR, _⟩ := h; rw [← hl] at hp ⊢; exact R_form hR hp
theorem N_reads' {n c : Nat} (h : N d e w base ok (.slice A n c) xs) : n = xs.length ∧ n ≤ c ∧ d.C w A xs.length xs := by
  obtain ⟨_, rows, hl, hR, hf⟩ := h; obtain ⟨hn, hc, hC⟩ := R_reads' hR; refine ⟨by omega, hc, ?_⟩; rw [hl] at hC; refine ⟨rfl, hC.2.1, fun hp => ?_⟩; obtain ⟨ad, he, hcell⟩ := hC.2.2 hp; refine ⟨ad, he, fun j p hj => ?_⟩
  have hjl : j < rows.length := by have := (List.getElem?_eq_some_iff.1 hj).1; omega
  obtain ⟨c', hcl, hK, hcc⟩ := hcell j _ (List.getElem?_eq_getElem hjl); have hk := FK_now (hf j p _ hj (List.getElem?_eq_getElem hjl)); refine ⟨c', hcl, ?_, hcc⟩; rw [show c' = rows[j] from hK.1]; exact hk
theorem N_elem {n cap : Nat} (h : N d e W base ok (.slice (some ⟨g, 0, none⟩) n cap) xs) (z : α) (i : Int) (h0 : 0 ≤ i) (h1 : i < n) :
    ∃ c, c.length = d.sz ∧ FK d W (fun k => ok k ∧ k ≠ g) (xs.getD i.toNat z) c ∧ (∀ j u, c[j]? = some u → W.cell? ⟨g, i.toNat * d.sz + j, none⟩ = some u) ∧ ∀ j, W.frozen? ⟨g, i.toNat * d.sz + j, none⟩ = false := by
  obtain ⟨_, rows, hl, hR, hf⟩ := h; have hn := (R_reads' hR).1; obtain ⟨c, hcl, hM, hcc, hfr⟩ := R_elem hR [] i h0 h1
  have hil : i.toNat < rows.length := by omega
  have hil' : i.toNat < xs.length := by omega
  have hc : c = rows[i.toNat] := by
    have h2 := hM.1
    rwa [List.getD_eq_getElem?_getD, List.getElem?_eq_getElem hil] at h2
  refine ⟨c, hcl, ?_, hcc, hfr⟩; rw [List.getD_eq_getElem?_getD, List.getElem?_eq_getElem hil']; exact FK_mono (hf _ _ _ (List.getElem?_eq_getElem hil') (by rw [hc]; exact List.getElem?_eq_getElem hil)) (fun k hk => ⟨hk.1, fun he => hk.2 (by rw [he]; simp [Value.ownBlock])⟩)
theorem N_get {ad : Addr} {n cap : Nat} (h : N d e W base ok (.slice (some ad) n cap) xs) (z : α) (i : Int) (h0 : 0 ≤ i) (h1 : i < n) :
    ∃ c, c.length = d.sz ∧ FK d W (fun k => ok k ∧ some k ≠ (Value.slice (some ad) n cap).ownBlock) (xs.getD i.toNat z) c ∧ ∀ j u, c[j]? = some u → W.cell? (ad.add (i.toNat * d.sz + j)) = some u := by
  obtain ⟨g, rfl⟩ : ∃ g, ad = ⟨g, 0, none⟩ := by
    obtain ⟨_, rows, _, hR, _⟩ := h; exact R_head hR
  obtain ⟨c, hcl, hM, hcc, _⟩ := N_elem h z i h0 h1; refine ⟨c, hcl, FK_mono hM (fun k hk => ⟨hk.1, fun he => hk.2 (by simpa [Value.ownBlock] using he)⟩), fun j u hu => ?_⟩; rw [add_at, Nat.zero_add]; exact hcc j u hu
end
end Kd
end Go.Proofs.YtdbamhckgaoibaaW.PrintWords
namespace Go.Proofs.YtdbamhckgaoibaaW.PrintWords
open Go.RowKit
section
variable {P : Program} {d : Nat} {xs ys : Array Value} {f : Field} {fs : List Field} {a b : Value} {r s : Bool} {w : World}
theorem eqf_last (hn : (f.name == "_") = false) (ha : (part f.type xs f.offset).run P w = .ok a w) (hb : (part f.type ys f.offset).run P w = .ok b w) (he : (Op.equalIn d f.type a b).run P w = .ok r w) : (Op.eqFields d xs ys [f]).run P w = .ok r w := by
  have hn' : f.name ≠ "_" := by simpa using hn
  simp only [Op.eqFields, if_pos hn', Sem.run_bind, ha, hb, he, Result.andThen_ok]
  cases r <;> simp
theorem eqf_cons (hn : (f.name == "_") = false) (ha : (part f.type xs f.offset).run P w = .ok a w) (hb : (part f.type ys f.offset).run P w = .ok b w) (he : (Op.equalIn d f.type a b).run P w = .ok r w) (hr : (Op.eqFields d xs ys fs).run P w = .ok s w) : (Op.eqFields d xs ys (f :: fs)).run P w = .ok (r && s) w := by
  have hn' : f.name ≠ "_" := by simpa using hn
  rw [Op.eqFields]; simp only [if_pos hn', Sem.run_bind, ha, hb, he, Result.andThen_ok]; cases r
  · simp
  · simpa using hr
theorem eqA_of {t : TypeId} {fs : Array Field} (hu : P.underlying t = some (.struct fs)) (hp : P.stoodInHeld t = false) (h : (Op.eqFields d xs ys fs.toList).run P w = .ok r w) : (Op.equalIn (d + 1) t (.agg xs) (.agg ys)).run P w = .ok r w := by
  have hf : P.fieldsOf t = fs := by simp [Program.fieldsOf, hu]
  rw [run_equalIn_struct (P := P) w d t xs ys (by rw [hf]; exact hu) hp, hf]; exact h
end
end Go.Proofs.YtdbamhckgaoibaaW.PrintWords
namespace Go.Proofs.YtdbamhckgaoibaaW.PrintWords
theorem Reps.one {α : Type} {R : α → List Value → Prop} {ps : List α} {cs : List Value} {p : α} {v : Value} (hp : R p [v]) (h : Reps R 1 ps cs) : Reps R 1 (p :: ps) (v :: cs) := by
  refine ⟨by simp [h.1], fun j q hq => ?_⟩
  cases j with
  | zero =>
    simp only [List.getElem?_cons_zero, Option.some.injEq] at hq; subst hq
    simpa using hp
  | succ j =>
    simp only [List.getElem?_cons_succ] at hq; have h1 := h.2 j q hq
    simpa [Nat.mul_one] using h1
theorem Reps.front {α : Type} {R : α → List Value → Prop} {size : Nat} {ps : List α} {cs c all : List Value} {p : α} (hp : R p c) (hc : c.length = size) (h : Reps R size ps cs) (ha : c ++ cs = all) : Reps R size (p :: ps) all := by
  subst ha; refine ⟨by rw [List.length_append, hc, h.1, List.length_cons, Nat.succ_mul, Nat.add_comm], fun j q hq => ?_⟩
  cases j with
  | zero =>
    simp only [List.getElem?_cons_zero, Option.some.injEq] at hq; subst hq; rw [Nat.zero_mul, List.drop_zero, List.take_append_of_le_length (by omega), List.take_of_length_le (by omega)]; exact hp
  | succ j =>
    simp only [List.getElem?_cons_succ] at hq; have h1 := h.2 j q hq; rw [Nat.succ_mul, List.drop_append, List.drop_of_length_le (by rw [hc]; exact Nat.le_add_left _ _), List.nil_append, hc, Nat.add_sub_cancel]; exact h1
theorem Reps.c2 {α : Type} {R : α → List Value → Prop} {ps : List α} {cs : List Value} {p : α} {va vb : Value} (hp : R p [va, vb]) (h : Reps R 2 ps cs) : Reps R 2 (p :: ps) (va :: vb :: cs) := Reps.front hp rfl h rfl
theorem Reps.c3 {α : Type} {R : α → List Value → Prop} {ps : List α} {cs : List Value} {p : α} {va vb vc : Value} (hp : R p [va, vb, vc]) (h : Reps R 3 ps cs) : Reps R 3 (p :: ps) (va :: vb :: vc :: cs) := Reps.front hp rfl h rfl
theorem Reps.c4 {α : Type} {R : α → List Value → Prop} {ps : List α} {cs : List Value} {p : α} {va vb vc vd : Value} (hp : R p [va, vb, vc, vd]) (h : Reps R 4 ps cs) : Reps R 4 (p :: ps) (va :: vb :: vc :: vd :: cs) := Reps.front hp rfl h rfl
theorem Reps.c5 {α : Type} {R : α → List Value → Prop} {ps : List α} {cs : List Value} {p : α} {va vb vc vd ve : Value} (hp : R p [va, vb, vc, vd, ve]) (h : Reps R 5 ps cs) : Reps R 5 (p :: ps) (va :: vb :: vc :: vd :: ve :: cs) := Reps.front hp rfl h rfl
theorem Reps.c6 {α : Type} {R : α → List Value → Prop} {ps : List α} {cs : List Value} {p : α} {va vb vc vd ve vf : Value} (hp : R p [va, vb, vc, vd, ve, vf]) (h : Reps R 6 ps cs) : Reps R 6 (p :: ps) (va :: vb :: vc :: vd :: ve :: vf :: cs) := Reps.front hp rfl h rfl
theorem Reps.c7 {α : Type} {R : α → List Value → Prop} {ps : List α} {cs : List Value} {p : α} {va vb vc vd ve vf vg : Value} (hp : R p [va, vb, vc, vd, ve, vf, vg]) (h : Reps R 7 ps cs) : Reps R 7 (p :: ps) (va :: vb :: vc :: vd :: ve :: vf :: vg :: cs) := Reps.front hp rfl h rfl
theorem Reps.c8 {α : Type} {R : α → List Value → Prop} {ps : List α} {cs : List Value} {p : α} {va vb vc vd ve vf vg vh : Value} (hp : R p [va, vb, vc, vd, ve, vf, vg, vh]) (h : Reps R 8 ps cs) : Reps R 8 (p :: ps) (va :: vb :: vc :: vd :: ve :: vf :: vg :: vh :: cs) := Reps.front hp rfl h rfl
theorem Reps.c9 {α : Type} {R : α → List Value → Prop} {ps : List α} {cs : List Value} {p : α} {va vb vc vd ve vf vg vh vi : Value} (hp : R p [va, vb, vc, vd, ve, vf, vg, vh, vi]) (h : Reps R 9 ps cs) : Reps R 9 (p :: ps) (va :: vb :: vc :: vd :: ve :: vf :: vg :: vh :: vi :: cs) := Reps.front hp rfl h rfl
theorem Reps.c10 {α : Type} {R : α → List Value → Prop} {ps : List α} {cs : List Value} {p : α} {va vb vc vd ve vf vg vh vi vj : Value} (hp : R p [va, vb, vc, vd, ve, vf, vg, vh, vi, vj]) (h : Reps R 10 ps cs) : Reps R 10 (p :: ps) (va :: vb :: vc :: vd :: ve :: vf :: vg :: vh :: vi :: vj :: cs) := Reps.front hp rfl h rfl
end Go.Proofs.YtdbamhckgaoibaaW.PrintWords
namespace Go.Proofs.YtdbamhckgaoibaaW.PrintWords
open Go.RowKit
section
variable {P : Program} {ops : Array Oper} {rest : List Oper} {o : Oper} {a : Act} {Q : Exit → Act → World → Prop} {W : World}
theorem gate_guard (hw : Region.wanted o (yielded ops a.tmps) = true) (h : wpList P ops Q ({ o with guard := none } :: rest) a W) : wpList P ops Q (o :: rest) a W := by
  have h1 : Region.wanted { o with guard := none } (yielded ops a.tmps) = true := rfl; unfold wpList at h ⊢; rw [if_pos h1] at h; rw [if_pos hw]; exact h
end
end Go.Proofs.YtdbamhckgaoibaaW.PrintWords
namespace Go.Proofs.YtdbamhckgaoibaaW.PrintWords
open Go.RowKit
namespace Kd
section
variable {α : Type} {d : Kd α} {e base n cap g : Nat} {ok ok' okp : Nat → Prop} {w w1 W : World} {v v1 : Value} {xs ys : List α}
theorem N_appended {rows news : List (List Value)} (h0 : ∀ k, v.ownBlock = some k → ok k) (hl : rows.length = xs.length) (hf : ∀ (j : Nat) (x : α) (c : List Value), xs[j]? = some x → rows[j]? = some c → FK d W (fun k => ok k ∧ some k ≠ v.ownBlock) x c)
    (hl2 : news.length = ys.length) (hf2 : ∀ (j : Nat) (x : α) (c : List Value), ys[j]? = some x → news[j]? = some c → FK d W okp x c) (hokp : ∀ k, okp k → ok k ∧ some k ≠ v.ownBlock) (hfresh : ∀ k, W.heap.size ≤ k → ok k)
    (hR : (raw d.sz).R e w1 base (fun _ => True) v1 (rows ++ news)) (hg : W.grownBy w1 v.ownBlock) (hat : v1.ownBlock = v.ownBlock ∨ ∃ b, v1.ownBlock = some b ∧ W.heap.size ≤ b) : N d e w1 base ok v1 (xs ++ ys) := by
  have hne : ∀ k, some k ≠ v.ownBlock → k < W.heap.size → some k ≠ v1.ownBlock := by
    intro k hk hlt
    rcases hat with hat | ⟨b, hb, hle⟩
    · rw [hat]; exact hk
    · rw [hb]
      intro he; injection he with he; omega
  have step : ∀ {x : α} {c : List Value} {o : Nat → Prop}, FK d W o x c → (∀ k, o k → ok k ∧ some k ≠ v.ownBlock) → FK d w1 (fun k => ok k ∧ some k ≠ v1.ownBlock) x c := by
    intro x c o hq ho; exact FK_mono (FK_step (FK_bound hq) (fun k hk hlt => hg.block k hlt (ho k hk.1).2)) (fun k hk => ⟨(ho k hk.1).1, hne k (ho k hk.1).2 hk.2⟩)
  refine ⟨fun k hk => ?_, rows ++ news, by rw [List.length_append, List.length_append, hl, hl2], raw_tight hR, fun j x c hx hc => ?_⟩
  · rcases hat with hat | ⟨b, hb, hle⟩
    · exact h0 k (hat ▸ hk)
    · rw [hb] at hk
      injection hk with hk; exact hfresh k (by omega)
  · rcases Nat.lt_or_ge j xs.length with hlt | hge
    · rw [List.getElem?_append_left hlt] at hx
      rw [List.getElem?_append_left (by omega)] at hc; exact step (hf j x c hx hc) (fun _ hk => hk)
    · rw [List.getElem?_append_right hge] at hx
      rw [List.getElem?_append_right (by omega), hl] at hc; exact step (hf2 _ x c hx hc) hokp
theorem FK_raw {x : α} {c : List Value} (h : FK d W ok x c) : c = c ∧ c.length = d.sz ∧ ∀ u ∈ c, u.oneCell' = true := ⟨rfl, d.K_len (FK_now h), d.K_one (FK_now h)⟩
theorem N_made {rows : List (List Value)} (hR : (raw d.sz).R e w1 base (fun k => k = W.heap.size) v1 rows) (hg : W.grownBy w1 none) (hat : ∃ b, v1.ownBlock = some b ∧ W.heap.size ≤ b) (hl : rows.length = xs.length) (hf : ∀ (j : Nat) (x : α) (c : List Value), xs[j]? = some x → rows[j]? = some c → FK d W okp x c)
    (hok : ∀ k, okp k → ok k) (hfresh : ok W.heap.size) : N d e w1 base ok v1 xs := by
  obtain ⟨b, hb, hle⟩ := hat; refine ⟨fun k hk => by rw [hR.1 k hk]; exact hfresh, rows, hl, raw_tight hR, fun j x c hx hc => ?_⟩; refine FK_mono (FK_step (FK_bound (hf j x c hx hc)) (fun k hk hlt => hg.block k hlt (by simp))) (fun k hk => ⟨hok k hk.1, fun he => ?_⟩); rw [hb] at he; injection he with he; have := hk.2; omega
theorem N_written {rows : List (List Value)} {i : Int} {x' : α} {c' : List Value} (h0 : ∀ k, (Value.slice (some ⟨g, 0, none⟩) n cap).ownBlock = some k → ok k) (hl : rows.length = xs.length) (hf : ∀ (j : Nat) (x : α) (c : List Value), xs[j]? = some x → rows[j]? = some c → FK d W (fun k => ok k ∧ some k ≠ (Value.slice (some ⟨g, 0, none⟩) n cap).ownBlock) x c)
    (hR : (raw d.sz).R e w1 base (fun _ => True) (.slice (some ⟨g, 0, none⟩) n cap) (rows.set i.toNat c')) (hg : W.grownBy w1 (some g)) (hM : FK d W okp x' c') (hokp : ∀ k, okp k → ok k ∧ k ≠ g) : N d e w1 base ok (.slice (some ⟨g, 0, none⟩) n cap) (xs.set i.toNat x') := by
  have hgo : some g = (Value.slice (some ⟨g, 0, none⟩) n cap).ownBlock := by simp [Value.ownBlock]
  refine ⟨h0, rows.set i.toNat c', by rw [List.length_set, List.length_set, hl], raw_tight hR, fun j x c hx hc => ?_⟩
  have hjl : j < xs.length := by have := (List.getElem?_eq_some_iff.1 hx).1; rwa [List.length_set] at this
  by_cases hji : j = i.toNat
  · subst hji
    rw [List.getElem?_set_self hjl] at hx; rw [List.getElem?_set_self (by omega)] at hc; injection hx with hx; injection hc with hc; rw [← hx, ← hc]; exact FK_mono (FK_step hM (fun k hk hlt => hg.block k hlt (fun he => (hokp k hk).2 (by injection he)))) (fun k hk => ⟨(hokp k hk).1, fun he => (hokp k hk).2 (by rw [← hgo] at he; injection he)⟩)
  · rw [List.getElem?_set_ne (Ne.symm hji)] at hx hc
    exact FK_step (hf j x c hx hc) (fun k hk hlt => hg.block k hlt (by rw [hgo]; exact hk.2))
theorem N_seg (h : N d e W base ok (.slice (some ⟨g, 0, none⟩) n cap) xs) (i : Int) (h0 : 0 ≤ i) (h1 : i < n) {c seg : List Value} {j : Nat} (hcl : c.length = d.sz) (hcc : ∀ j u, c[j]? = some u → W.cell? ⟨g, i.toNat * d.sz + j, none⟩ = some u)
    (hj : j + seg.length ≤ d.sz) {x' : α} (hM : FK d W okp x' (c.take j ++ seg ++ c.drop (j + seg.length))) (hokp : ∀ k, okp k → ok k ∧ k ≠ g) :
    N d e (W.setCells g (i.toNat * d.sz + j) seg) base ok (.slice (some ⟨g, 0, none⟩) n cap) (xs.set i.toNat x') ∧ W.grownBy (W.setCells g (i.toNat * d.sz + j) seg) (some g) := by
  obtain ⟨hown, rows, hl, hR, hf⟩ := h; obtain ⟨h2, h3⟩ := R_seg (raw_any hR) i h0 h1 (c := c) (seg := seg) (j := j) (x' := c.take j ++ seg ++ c.drop (j + seg.length)) (okp := fun _ => False) hcl hcc hj ⟨rfl, d.K_len (FK_now hM), d.K_one (FK_now hM)⟩ (fun _ hk => hk.elim); exact ⟨N_written hown hl hf h2 h3 hM hokp, h3⟩
theorem reads_raw {Rr : α → List Value → Prop} {sz m : Nat} {A : Option Addr} (h : ReadsRow Rr sz W A m ys) (hR : ∀ x c, Rr x c → c.length = sz ∧ ∀ u ∈ c, u.oneCell' = true) :
    ∃ news : List (List Value), news.length = ys.length ∧ ReadsRow (fun x cs => cs = x ∧ cs.length = sz ∧ ∀ u ∈ cs, u.oneCell' = true) sz W A m news ∧ ∀ (j : Nat) (x : α) (c : List Value), ys[j]? = some x → news[j]? = some c → Rr x c := by
  rcases Nat.eq_zero_or_pos m with h0 | hp
  · have hy : ys = [] := List.eq_nil_of_length_eq_zero (h.1.trans h0)
    subst hy; exact ⟨[], rfl, ⟨h0 ▸ rfl, h.2.1, fun hp => by omega⟩, fun j x c hx => by simp at hx⟩
  · obtain ⟨ad, rfl, _⟩ := h.2.2 hp
    obtain ⟨inner, hr, hc⟩ := ReadsRow.inner_ h; refine ⟨chunks sz ys.length inner, chunks_length _ _ _, ⟨by rw [chunks_length]; exact h.1, h.2.1, fun _ => ⟨ad, rfl, fun j p hj => ?_⟩⟩, fun j x c hx hcc => ?_⟩
    · have hjl : j < ys.length := by have := (List.getElem?_eq_some_iff.1 hj).1; rwa [chunks_length] at this
      have hpe := chunks_get hj; have hq := hR _ _ (hr.2 j _ (List.getElem?_eq_getElem hjl)); rw [← hpe] at hq; refine ⟨p, hq.1, ⟨rfl, hq⟩, fun i u hu => ?_⟩
      have hu2 : inner[j * sz + i]? = some u := by
        rw [hpe, List.getElem?_take] at hu
        split at hu
        · rw [List.getElem?_drop] at hu
          exact hu
        · cases hu
      exact hc _ u hu2
    · rw [chunks_get hcc]
      exact hr.2 j x hx
end
section
variable {P : Program} {ops : Array Oper} {rest : List Oper} {o : Oper} {a : Act} {Q : Exit → Act → World → Prop} {Kc : Act → World → Prop} {α : Type}
theorem N_append_step (d : Kd α) {w0 W : World} (base : Nat) (hw : Region.wanted o (yielded ops a.tmps) = true) (s x : Operand) (t e : TypeId) (z : Value) (bytes : Nat)
    (ho : o.op = .call { callee := .builtin .append, args := #[s, x], argTypes := #[t, t] })
    (ht : P.underlying t = some (.slice e)) (hinfo : (P.info? e).map (fun i => (i.zero, i.size, i.bytes)) = some (some z, d.sz, bytes)) (hz : z.cells.size = d.sz) (hs0 : 0 < d.sz) (hb0 : 0 < bytes)
    (v : Value) (xs : List α) (p : α) (cs : List Value) (ok okp : Nat → Prop) (hs : a.eval s = v) (hx : a.eval x = .slice (some ⟨W.heap.size, 0, none⟩) 1 1) (hp : FK d W okp p cs) (hokp : ∀ k, okp k → ok k ∧ some k ≠ v.ownBlock) (hfresh : ∀ k, W.heap.size ≤ k → ok k)
    (HO : N d e W base ok v xs) (HB : Below base w0 W) (hbase : base ≤ W.heap.size) (hl : (xs.length + 1) * bytes ≤ 140737488355328)
    (h : ∀ v1 w1, N d e w1 base ok v1 (xs ++ [p]) → Below base w0 w1 → W.grownBy w1 v.ownBlock → (v1.ownBlock = v.ownBlock ∨ ∃ b, v1.ownBlock = some b ∧ W.heap.size ≤ b) → Kc (a.put o.dst v1) w1) :
    if Region.wanted o (yielded ops a.tmps) = true then Oper.wp P o a (W.alloc (.cells cs.toArray e)) Kc Q else Kc (a.put o.dst undef) (W.alloc (.cells cs.toArray e)) := by
  obtain ⟨h0, rows, hlr, hR, hf⟩ := HO; refine R_append_step (raw d.sz) base hw s x t e z bytes ho ht hinfo hz hs0 hb0 v rows cs cs (fun _ => True) (fun _ => False) hs hx (FK_raw hp) (fun _ hk => hk.elim) (fun _ _ => trivial) (raw_any hR) HB hbase (by rw [hlr]; exact hl) ?_; intro v1 w1 hr hb hg hat
  exact h v1 w1 (N_appended h0 hlr hf (ys := [p]) (news := [cs]) rfl (fun j y c hy hc => by
    rcases j with _ | j
    · simp only [List.getElem?_cons_zero, Option.some.injEq] at hy hc
      rw [← hy, ← hc]; exact hp
    · simp at hy) hokp hfresh hr hg hat) hb hg hat
theorem N_append_rows (d : Kd α) {w0 W : World} (base : Nat) (hgd : o.guard = none) (s x : Operand) (t e : TypeId) (z : Value) (bytes : Nat)
    (ho : o.op = .call { callee := .builtin .append, args := #[s, x], argTypes := #[t, t] })
    (ht : P.underlying t = some (.slice e)) (hinfo : (P.info? e).map (fun i => (i.zero, i.size, i.bytes)) = some (some z, d.sz, bytes)) (hz : z.cells.size = d.sz) (hs0 : 0 < d.sz) (hb0 : 0 < bytes)
    (v : Value) (xs ys : List α) (A : Option Addr) (m c : Nat) (ok okp : Nat → Prop) (hs : a.eval s = v) (hx : a.eval x = .slice A m c)
    (HO : N d e W base ok v xs) (HR : F d W okp A m ys) (hokp : ∀ k, okp k → ok k ∧ some k ≠ v.ownBlock) (hfresh : ∀ k, W.heap.size ≤ k → ok k)
    (HB : Below base w0 W) (hbase : base ≤ W.heap.size) (hl : (xs.length + m) * bytes ≤ 140737488355328)
    (h : ∀ v1 w1, N d e w1 base ok v1 (xs ++ ys) → Below base w0 w1 → W.grownBy w1 v.ownBlock → (v1.ownBlock = v.ownBlock ∨ ∃ b, v1.ownBlock = some b ∧ W.heap.size ≤ b) → wpList P ops Q rest (a.put o.dst v1) w1) :
    wpList P ops Q (o :: rest) a W := by
  obtain ⟨h0, rows, hlr, hR, hf⟩ := HO; obtain ⟨news, hnl, hnr, hnf⟩ := reads_raw (F_rows HR) (fun y c hk => ⟨d.K_len (FK_now hk), d.K_one (FK_now hk)⟩); refine R_append_rows (raw d.sz) base hgd s x t e z bytes ho ht hinfo hz hs0 hb0 v rows news A m c (fun _ => True) (fun _ => False) hs hx (raw_any hR) hnr (fun _ _ hk => hk) (fun _ hk => hk.elim) (fun _ _ => trivial) HB hbase (by rw [hlr]; exact hl) ?_; intro v1 w1 hr hb hg hat; exact h v1 w1 (N_appended h0 hlr hf hnl hnf hokp hfresh hr hg hat) hb hg hat
theorem N_lit (d : Kd α) {w0 W : World} (base e : Nat) (hgd : o.guard = none) {N' : Tmp} (_hd : o.dst = some N') {xs : List α} {inner : List Value} {ok okp : Nat → Prop}
    (hrun : (execOp a.eval o).run P W = .ok (.value (.slice (some ⟨W.heap.size, 0, none⟩) xs.length xs.length)) (W.alloc (.cells inner.toArray e)))
    (hrep : Reps (FK d W okp) d.sz xs inner) (hok : ∀ k, okp k → ok k) (hfresh : ok W.heap.size) (HB : Below base w0 W) (hbase : base ≤ W.heap.size) (hm : xs.length ≤ 9223372036854775807)
    (h : ∀ v1 w1, N d e w1 base ok v1 xs → Below base w0 w1 → W.grownBy w1 none → (∃ b, v1.ownBlock = some b ∧ W.heap.size ≤ b) → wpList P ops Q rest (a.put o.dst v1) w1) :
    wpList P ops Q (o :: rest) a W := by
  refine R_lit (raw d.sz) base e hgd _hd (xs := chunks d.sz xs.length inner) (inner := inner) (ok := fun k => k = W.heap.size) (okp := fun _ => False) (by rw [chunks_length]; exact hrun) (reps_raw hrep (fun y c hk => ⟨d.K_len (FK_now hk), d.K_one (FK_now hk)⟩)) (fun _ hk => hk.elim) rfl HB hbase (by rw [chunks_length]; exact hm) ?_; intro v1 w1 hr hb hg hat; exact h v1 w1 (N_made hr hg hat (chunks_length _ _ _) (fun j y c hy hc => by rw [chunks_get hc]; exact hrep.2 j y hy) hok hfresh) hb hg hat
end
end Kd
end Go.Proofs.YtdbamhckgaoibaaW.PrintWords
namespace Go.Proofs.YtdbamhckgaoibaaW.PrintMore
open Go.RowKit Go.Proofs.YtdbamhckgaoibaaW.PrintWords
namespace Kd
open Go.Proofs.YtdbamhckgaoibaaW.PrintWords.Kd
end Kd
namespace Kd
open Go.Proofs.YtdbamhckgaoibaaW.PrintWords.Kd
section
variable {α : Type} {d : Kd α} {e base g N : Nat} {ok : Nat → Prop} {W w1 : World} {u v : Value} {xs : List α}
end
end Kd
theorem max2_int (k k' : IntKind) (x y : Int) : Builtin.max2 (.int k x) (.int k' y) = pure (.int k (if x < y then y else x)) := by simp only [Builtin.max2, gt_iff_lt]
theorem min2_int (k k' : IntKind) (x y : Int) : Builtin.min2 (.int k x) (.int k' y) = pure (.int k (if y < x then y else x)) := by simp only [Builtin.min2]
theorem max_two (ats : Array TypeId) (ty : TypeId) (a b : Value) : Builtin.max_ ats ty #[a, b] = (Builtin.max2 a b >>= fun s => pure s) := by simp only [Builtin.max_, List.foldlM_cons, List.foldlM_nil]
theorem min_two (ats : Array TypeId) (ty : TypeId) (a b : Value) : Builtin.min_ ats ty #[a, b] = (Builtin.min2 a b >>= fun s => pure s) := by simp only [Builtin.min_, List.foldlM_cons, List.foldlM_nil]
theorem max_three (ats : Array TypeId) (ty : TypeId) (a b c : Value) : Builtin.max_ ats ty #[a, b, c] = (Builtin.max2 a b >>= fun s => Builtin.max2 s c >>= fun s => pure s) := by simp only [Builtin.max_, List.foldlM_cons, List.foldlM_nil]
theorem min_three (ats : Array TypeId) (ty : TypeId) (a b c : Value) : Builtin.min_ ats ty #[a, b, c] = (Builtin.min2 a b >>= fun s => Builtin.min2 s c >>= fun s => pure s) := by simp only [Builtin.min_, List.foldlM_cons, List.foldlM_nil]
theorem max_four (ats : Array TypeId) (ty : TypeId) (a b c d : Value) : Builtin.max_ ats ty #[a, b, c, d] = (Builtin.max2 a b >>= fun s => Builtin.max2 s c >>= fun s => Builtin.max2 s d >>= fun s => pure s) := by simp only [Builtin.max_, List.foldlM_cons, List.foldlM_nil]
theorem min_four (ats : Array TypeId) (ty : TypeId) (a b c d : Value) : Builtin.min_ ats ty #[a, b, c, d] = (Builtin.min2 a b >>= fun s => Builtin.min2 s c >>= fun s => Builtin.min2 s d >>= fun s => pure s) := by simp only [Builtin.min_, List.foldlM_cons, List.foldlM_nil]
end Go.Proofs.YtdbamhckgaoibaaW.PrintMore
namespace Go.Proofs.YtdbamhckgaoibaaW.PrintWords
open Go.RowKit
section
variable {P : Program} {ops : Array Oper} {rest : List Oper} {o : Oper} {a : Act} {Q : Exit → Act → World → Prop} {W : World}
theorem gate_callee {f : FuncId} {as_ : Array Operand} {ts : Array TypeId} (_ho : o.op = .call { callee := .value (.func f), args := as_, argTypes := ts }) (h : wpList P ops Q (o :: rest) a W) : wpList P ops Q (o :: rest) a W := h
theorem gate_builtin {b : Builtin} {xs : Array Operand} {ts : Array TypeId} (_ho : o.op = .call { callee := .builtin b, args := xs, argTypes := ts }) (h : wpList P ops Q (o :: rest) a W) : wpList P ops Q (o :: rest) a W := h
end
theorem cell_unalloc {W : World} {o : Obj} {a : Addr} {v : Value} (h : (W.alloc o).cell? a = some v) (hlt : a.block < W.heap.size) : W.cell? a = some v := (World.cell?_alloc_lt _ _ _ hlt).symm.trans h
theorem cell_grown {W w1 : World} {row : Option Nat} (hg : W.grownBy w1 row) {a : Addr} {v : Value} (h : W.cell? a = some v) (hne : some a.block ≠ row) : w1.cell? a = some v := by
  have := hg.block a.block (World.block_lt_of_cell? W a h) hne
  simpa [World.cell?, this] using h
namespace Kd
section
variable {α : Type} {d : Kd α} {e base : Nat} {ok : Nat → Prop} {W w1 : World} {v : Value} {xs : List α}
end
section
variable {α : Type} {d : Kd α} {e base g n cap : Nat} {ok oki okp : Nat → Prop} {W : World} {xs : List α} {i : Int} {c : List Value}
theorem H_at (h : H d e W base ok (.slice (some ⟨g, 0, none⟩) n cap) xs i oki c) (h0 : 0 ≤ i) (h1 : i < n) : (∀ j u, c[j]? = some u → W.cell? ⟨g, i.toNat * d.sz + j, none⟩ = some u) ∧ ∀ j, W.frozen? ⟨g, i.toNat * d.sz + j, none⟩ = false := by
  obtain ⟨rows, _, hraw, _, _, hcc, _⟩ := H_raw h h0 h1; obtain ⟨_, _, _, _, hfr⟩ := R_elem hraw [] i h0 h1; exact ⟨hcc, hfr⟩
theorem S_seg0 (hH : H d e W base ok (.slice (some ⟨g, 0, none⟩) n cap) xs i oki c) (h0 : 0 ≤ i) (h1 : i < n) {seg : List Value} {j : Nat} (hj : j + seg.length ≤ d.sz)
    {x' : α} (hM : d.M W base okp x' (c.take j ++ seg ++ c.drop (j + seg.length))) (hokp : ∀ k, okp k → oki k) :
    S d e (W.setCells g (i.toNat * d.sz + j) seg) base ok (.slice (some ⟨g, 0, none⟩) n cap) (xs.set i.toNat x') ∧ W.grownBy (W.setCells g (i.toNat * d.sz + j) seg) (some g) :=
  S_seg (okg := fun _ => False) (H_mono hH (fun _ hk => ⟨hk, fun h => h⟩)) h0 h1 hj hM (fun k hk => .inl (hokp k hk)) (fun _ hk => hk.elim)
end
section
variable {α : Type} {d : Kd α} {e base b b' g N : Nat} {ok ok1 : Nat → Prop} {W W2 w1 : World} {u v : Value} {xs ys : List α} {S : Nat → Prop}
end
end Kd
end Go.Proofs.YtdbamhckgaoibaaW.PrintWords
namespace Go.Proofs.YtdbamhckgaoibaaW.PrintWords
open Go.RowKit
namespace Kd
def V {α : Type} (d : Kd α) (_e : Nat) (W : World) (_base : Nat) (ok : Nat → Prop) (v : Value) (xs : List α) : Prop := ∃ A c, v = .slice A xs.length c ∧ xs.length ≤ c ∧ F d W ok A xs.length xs
section
variable {α β : Type} {d : Kd α} {e base base' n m c g N' lo hi : Nat} {ok ok' S : Nat → Prop} {w W w1 : World} {A : Option Addr} {ad : Addr} {u v v1 : Value} {xs : List α}
theorem V_map (h : V d e W base ok v xs) (hF : ∀ A, F d W ok A xs.length xs → F d w1 ok' A xs.length xs) : V d e w1 base' ok' v xs := by
  obtain ⟨A, c, hv, hl, hf⟩ := h; exact ⟨A, c, hv, hl, hF A hf⟩
theorem V_mk (hl : xs.length ≤ c) (hf : F d W ok A xs.length xs) : V d e W base ok (.slice A xs.length c) xs := ⟨A, c, rfl, hl, hf⟩
theorem V_at (h : V d e W base ok (.slice A n c) xs) : n = xs.length ∧ n ≤ c ∧ F d W ok A xs.length xs := by
  obtain ⟨A', c', hv, hl, hf⟩ := h; injection hv with ha hn hc
  subst ha; subst hc
  exact ⟨hn, by rw [hn]; exact hl, hf⟩
theorem V_reads' (h : V d e W base ok (.slice A n c) xs) : n = xs.length ∧ n ≤ c ∧ d.C W A xs.length xs := ⟨(V_at h).1, (V_at h).2.1, F_now (V_at h).2.2⟩
theorem V_F (h : V d e W base ok (.slice A n c) xs) : F d W ok A n xs := by
  obtain ⟨hn, _, hf⟩ := V_at h; rw [hn]; exact hf
theorem V_nil (d : Kd α) (e : Nat) (W : World) (base : Nat) (ok : Nat → Prop) : V d e W base ok (.slice none 0 0) [] := ⟨none, 0, rfl, Nat.le_refl _, F_nil d W ok⟩
theorem V_mono (h : V d e W base ok v xs) (hok : ∀ k, ok k → ok' k) : V d e W base ok' v xs := V_map h (fun _ hf => F_mono hf hok)
theorem V_below (h : V d e W base ok v xs) (hb : Below W.heap.size W w1) : V d e w1 base ok v xs := V_map h (fun _ hf => F_below hf hb)
theorem V_alloc (h : V d e W base ok v xs) (o : Obj) : V d e (W.alloc o) base ok v xs := V_map h (fun _ hf => F_alloc hf o)
theorem V_drew (h : V d e W base ok v xs) : V d e W.drew base ok v xs := V_map h (fun _ hf => F_drew hf)
theorem V_drewN (h : V d e W base ok v xs) (m : Nat) : V d e (W.drewN m) base ok v xs := V_map h (fun _ hf => F_drewN hf m)
theorem V_after (h : V d e W base (fun k => ok k ∧ some k ≠ u.ownBlock) v xs) (hg : W.grownBy w1 u.ownBlock) (hat : v1.ownBlock = u.ownBlock ∨ ∃ b, v1.ownBlock = some b ∧ W.heap.size ≤ b) : V d e w1 base (fun k => ok k ∧ some k ≠ v1.ownBlock) v xs := V_map h (fun _ hf => F_after hf hg hat)
theorem V_afterv (h : V d e W base (fun k => ok k ∧ some k ≠ v.ownBlock) u xs) (hg : W.grownBy w1 v.ownBlock) (hat : v1.ownBlock = v.ownBlock ∨ ∃ b, v1.ownBlock = some b ∧ W.heap.size ≤ b) : V d e w1 base (fun k => ok k ∧ some k ≠ v1.ownBlock) u xs := V_after h hg hat
theorem N_afterv (h : N d e W base (fun k => ok k ∧ some k ≠ v.ownBlock) u xs) (hg : W.grownBy w1 v.ownBlock) (hat : v1.ownBlock = v.ownBlock ∨ ∃ b, v1.ownBlock = some b ∧ W.heap.size ≤ b) : N d e w1 base (fun k => ok k ∧ some k ≠ v1.ownBlock) u xs := N_after h hg hat
theorem V_elder' (h : V d e W base ok v xs) (hbase : ∀ k, u.ownBlock = some k → W.heap.size ≤ k) (hb : Below W.heap.size W w1) : V d e w1 base (fun k => ok k ∧ some k ≠ u.ownBlock) v xs := V_map h (fun _ hf => F_elder' hf hbase hb)
theorem V_elderB (h : V d e W base ok v xs) (a : Nat) (ha : W.heap.size ≤ a) : V d e W base (fun k => ok k ∧ k ≠ a) v xs := V_map h (fun _ hf => F_elderB hf a ha)
theorem V_get (h : V d e W base ok (.slice (some ad) n c) xs) (z : α) (i : Int) (h0 : 0 ≤ i) (h1 : i < n) :
    ∃ cs, cs.length = d.sz ∧ FK d W ok (xs.getD i.toNat z) cs ∧ ∀ j u, cs[j]? = some u → W.cell? (ad.add (i.toNat * d.sz + j)) = some u := by
  obtain ⟨ad', cs, he, hcl, hK, hcc, _⟩ := F_get (V_F h) z i h0 h1; injection he with he; subst he; exact ⟨cs, hcl, hK, hcc⟩
theorem FK_slice_open {l : List α} {cs : List Value} (h : FK (Kd.slice e d) W ok l cs) : ∃ A c, cs = [.slice A l.length c] ∧ l.length ≤ c ∧ F d W ok A l.length l := by
  obtain ⟨A, c, rfl, hl, _⟩ := FK_now h; refine ⟨A, c, rfl, hl, fun W' hW => ?_⟩; obtain ⟨A', c', he, _, g'⟩ := h W' hW; injection he with he _; injection he with ha _ _; rw [ha]; exact g'
theorem FK_slice_mk {l : List α} (hl : l.length ≤ c) (hf : F d W ok A l.length l) : FK (Kd.slice e d) W ok l [.slice A l.length c] := fun W' hW => ⟨A, c, rfl, hl, hf W' hW⟩
theorem R_newM {M : Nat → Prop} (h : d.R e w1 W.heap.size ok v xs) (hle : w.heap.size ≤ W.heap.size) (hM : ∀ k, w.heap.size ≤ k → M k) : d.R e w1 W.heap.size (fun k => M k ∧ ok k) v xs := R_mono (R_bound h) (fun k hk => ⟨hM k (Nat.le_trans hle hk.2.1), hk.1⟩)
end
end Kd
end Go.Proofs.YtdbamhckgaoibaaW.PrintWords
namespace Go.Proofs.Ytdbamhckgaoibaa
theorem as_ {p : Prop} (h : p := by first | (with_reducible assumption) | assumption) : p := h
theorem hb_ {p : Prop} (h : p := by repeat (first | (with_reducible first | exact HB.out | apply below_alloc | apply pw_below_drewN | apply below_drew1) | exact HB.out)) : p := h
theorem hg_ {p : Prop} (h : p := by repeat (first | (with_reducible first | exact HB.out | apply below_alloc | apply pw_below_drewN | apply below_drew1 | refine below_set ?_ GE_.out) | exact HB.out)) : p := h
theorem mp_ {p : Prop} (h : p := by (try simp only [List.map_toArray, List.map_cons, List.map_nil]); first | done | rfl | (simp only [List.length_drop, List.length_take]; rfl)) : p := h
theorem dr_ {p : Prop} (h : p := by repeat (first | exact Drawn0.refl _ | apply Drawn0.step)) : p := h
theorem rf_ {p : Prop} (h : p := by first | rfl | (simp; done) | (simp [*]; done)) : p := h
theorem rr_ {p q : Prop} (h : q) (f : q → p := by intro h_; (with_reducible repeat (first | apply Kd.R_alloc | apply Kd.R_drewN | apply Kd.R_drew)); exact h_) : p := f h
theorem rn_ {p q : Prop} (h : q) (f : q → p := by intro h_; (with_reducible repeat (first | apply Kd.N_alloc | apply Kd.N_drewN | apply Kd.N_drew)); exact h_) : p := f h
theorem rv_ {p q : Prop} (h : q) (f : q → p := by intro h_; (with_reducible repeat (first | apply Kd.V_alloc | apply Kd.V_drewN | apply Kd.V_drew)); exact h_) : p := f h
theorem rs_ {p q : Prop} (h : q) (f : q → p := by intro h_; (with_reducible repeat (first | apply Kd.S_alloc | apply Kd.S_drewN | apply Kd.S_drew)); exact h_) : p := f h
theorem rq_ {p q : Prop} (h : q) (f : q → p := by intro h_; (with_reducible repeat (first | apply Kd.Q_alloc | apply Kd.Q_drewN | apply Kd.Q_drew)); exact h_) : p := f h
theorem bk_ {p q : Prop} (h : q) (f : q → p := by intro h_; (with_reducible repeat (first | refine blk_drewN ?_ _ | refine blk_drew ?_ | refine blk_alloc ?_ _)); exact h_) : p := f h
theorem cb_ {p q : Prop} (h : q) (f : q → p := by intro h_; repeat (first | exact h_ | (with_reducible refine Kd.C_alloc ?_ _) | (with_reducible refine Kd.C_drewN ?_ _) | (with_reducible refine Kd.C_drew ?_))) : p := f h
end Go.Proofs.Ytdbamhckgaoibaa
namespace Go.Proofs.Ytdbamhckgaoibaa.P
open Go.RowKit Go.Proofs.YtdbamhckgaoibaaW.PrintWords Go.Proofs.YtdbamhckgaoibaaW.PrintLast Go.Proofs.YtdbamhckgaoibaaW.PrintMore
attribute [local go_sem] max2_int min2_int max_two min_two max_three min_three max_four min_four
set_option linter.unusedVariables false
set_option linter.unusedSimpArgs false
def errW : Option Int → Value
  | none => .nilIface
  | some c => .iface 0 (.int .i64 c)
theorem errW_none : errW none = .nilIface := rfl
theorem errW_some (c : Int) : errW (some c) = .iface 0 (.int .i64 c) := rfl
theorem info3 : (Try.prog.info? 3).map (fun i => (i.zero, i.size, i.bytes)) = some (some (.int .i64 0), 1, 8) := by kernel_rfl
theorem info23 : (Try.prog.info? 23).map (fun i => (i.zero, i.size, i.bytes)) = some (some (.slice none 0 0), 1, 24) := by kernel_rfl
theorem info38 : (Try.prog.info? 38).map (fun i => (i.zero, i.size, i.bytes)) = some (some (.agg #[(.int .i64 0), (.int .i64 0)]), 2, 16) := by kernel_rfl
def rd_L1 (xs : List (List Int)) (i : Int) : (List Int) := xs.getD i.toNat ([] : List Int)
theorem at_L1 {w : World} {A : Option Addr} {n : Nat} {xs : List (List Int)} (h : Kd.C (Kd.slice 3 (Kd.int .i64)) w A n xs) (i : Int) (h0 : 0 ≤ i) (h1 : i < n) : ∃ ad A0 c0, A = some ad ∧ w.cell? (ad.add i.toNat) = some (.slice A0 (rd_L1 xs i).length c0) ∧ (rd_L1 xs i).length ≤ c0 ∧ (Kd.int .i64).C w A0 (rd_L1 xs i).length (rd_L1 xs i) := by
  obtain ⟨ad, c, e, _, hK, hc0⟩ := Kd.C_get h ([] : List Int) i h0 h1; have hc : ∀ j u, c[j]? = some u → w.cell? (ad.add (i.toNat * 1 + j)) = some u := hc0; obtain ⟨A0, c0, rfl, l0, g0⟩ := hK; exact ⟨ad, A0, c0, e, by have hq := hc 0 _ rfl; rwa [Nat.mul_one, Nat.add_zero] at hq, l0, g0⟩
structure S38 where
  f0 : Int
  f1 : Int
def z38 : S38 := ⟨(0 : Int), (0 : Int)⟩
def k38 : Kd S38 := Kd.iso (Kd.pair (Kd.int .i64) (Kd.int .i64)) (fun x : S38 => (x.f0, x.f1))
theorem k38_open {w : World} {x : S38} {cs : List Value} (h : k38.K w x cs) : cs = [.int .i64 x.f0, .int .i64 x.f1] := by
  obtain ⟨_, _, rfl, rfl, rfl⟩ := h; exact rfl
theorem k38_mk (w : World) (x : S38)  : k38.K w x [.int .i64 x.f0, .int .i64 x.f1] := ⟨[.int .i64 x.f0], [.int .i64 x.f1], rfl, rfl, rfl⟩
theorem k38_mkM (w : World) (base : Nat) (ok : Nat → Prop) (x : S38)  : k38.M w base ok x [.int .i64 x.f0, .int .i64 x.f1] := ⟨[.int .i64 x.f0], [.int .i64 x.f1], rfl, rfl, rfl⟩
def rd_T38 (xs : List S38) (i : Int) : S38 := xs.getD i.toNat z38
theorem at_T38 {w : World} {A : Option Addr} {n : Nat} {xs : List S38} (h : Kd.C k38 w A n xs) (i : Int) (h0 : 0 ≤ i) (h1 : i < n) : ∃ ad , A = some ad ∧ w.cell? (ad.add (i.toNat * 2)) = some (.int .i64 (rd_T38 xs i).f0) ∧ w.cell? ⟨(ad.add (i.toNat * 2)).block, (ad.add (i.toNat * 2)).off + 1, none⟩ = some (.int .i64 (rd_T38 xs i).f1) := by
  obtain ⟨ad, c, e, _, hK, hc0⟩ := Kd.C_get h z38 i h0 h1; have hc : ∀ j u, c[j]? = some u → w.cell? (ad.add (i.toNat * 2 + j)) = some u := hc0; obtain rfl := k38_open hK; exact ⟨ad, e, hc 0 _ rfl, by rw [← add_field _ _ 1 (by omega)]; exact hc 1 _ rfl⟩
theorem eqA38 (d : Nat) (w : World) (x0 y0 : Int) (x1 y1 : Int) :
    (Op.equalIn (d + 2) 38 (.agg #[.int .i64 x0, .int .i64 x1]) (.agg #[.int .i64 y0, .int .i64 y1])).run Try.prog w = .ok (x0 == y0 && (x1 == y1)) w := by
  refine eqA_of Try.underlying38 (by kernel_rfl) ?_; refine eqf_cons (by rfl) (by go_simp; rfl) (by go_simp; rfl) (by go_simp) ?_; exact eqf_last (by rfl) (by go_simp; rfl) (by go_simp; rfl) (by go_simp)
end Go.Proofs.Ytdbamhckgaoibaa.P
namespace Go.Proofs.Ytdbamhckgaoibaa.Sig
theorem coprime_dvd {a n k : Nat} (hc : Nat.Coprime a n) (h : n ∣ a * k) : n ∣ k :=
  Nat.Coprime.dvd_of_dvd_mul_left hc.symm h
def H (n : Nat) : List Nat := List.range' 1 (n / 2)
def ep (a n k : Nat) : Nat := if n / 2 < a * k % n then 1 else 0
def pi (a n k : Nat) : Nat := if n / 2 < a * k % n then n - a * k % n else a * k % n
def mu (a n : Nat) : Nat := ((H n).map (ep a n)).sum
theorem mem_H {n k : Nat} : k ∈ H n ↔ 1 ≤ k ∧ k ≤ n / 2 := by
  unfold H; rw [List.mem_range'_1]; omega
theorem nodup_map_on {α β : Type} (f : α → β) : ∀ (l : List α), l.Nodup → (∀ x ∈ l, ∀ y ∈ l, f x = f y → x = y) → (l.map f).Nodup
  | [], _, _ => List.nodup_nil
  | a :: l, hn, hi => by
    rw [List.nodup_cons] at hn; rw [List.map_cons, List.nodup_cons]; refine ⟨fun h => ?_, nodup_map_on f l hn.2 fun x hx y hy => hi x (List.mem_cons_of_mem _ hx) y (List.mem_cons_of_mem _ hy)⟩; obtain ⟨y, hy, e⟩ := List.mem_map.1 h; have := hi y (List.mem_cons_of_mem _ hy) a List.mem_cons_self e; subst this; exact hn.1 hy
theorem perm_of_sub : ∀ (l m : List Nat), l.Nodup → (∀ x ∈ l, x ∈ m) → m.length ≤ l.length → l.Perm m
  | [], m, _, _, hl => by
    have : m = [] := List.eq_nil_of_length_eq_zero (by simp at hl; simp [hl]); rw [this]
  | a :: l, m, hn, hs, hl => by
    rw [List.nodup_cons] at hn; have ha : a ∈ m := hs a List.mem_cons_self; refine List.Perm.trans ?_ (List.perm_cons_erase ha).symm; refine List.Perm.cons a (perm_of_sub l (m.erase a) hn.2 (fun x hx => ?_) ?_)
    · have hne : x ≠ a := fun e => hn.1 (e ▸ hx)
      exact (List.mem_erase_of_ne hne).2 (hs x (List.mem_cons_of_mem _ hx))
    · rw [List.length_erase_of_mem ha]
      simp at hl
      omega
theorem mod_pos_of {a n k : Nat} (hc : Nat.Coprime a n) (hk : k ∈ H n) : 0 < a * k % n := by
  rcases Nat.eq_zero_or_pos (a * k % n) with h | h
  · have := coprime_dvd hc (Nat.dvd_of_mod_eq_zero h)
    have hk := mem_H.1 hk; have := Nat.le_of_dvd (by omega) this; omega
  · exact h
theorem sub_dvd {n x y : Nat} (h : x % n = y % n) : n ∣ x - y :=
  Nat.dvd_of_mod_eq_zero (Nat.sub_mod_eq_zero_of_mod_eq h)
theorem add_dvd {n x y : Nat} (h : x % n + y % n = n) : n ∣ x + y := by
  refine Nat.dvd_of_mod_eq_zero ?_; rw [Nat.add_mod, h, Nat.mod_self]
theorem pi_inj {a n : Nat} (hn : n % 2 = 1) (hc : Nat.Coprime a n) : ∀ x ∈ H n, ∀ y ∈ H n, pi a n x = pi a n y → x = y := by
  intro x hx y hy e; have h1 := mod_pos_of hc hx; have h2 := mod_pos_of hc hy; have hx' := mem_H.1 hx; have hy' := mem_H.1 hy; have hlx := Nat.mod_lt (a * x) (show n > 0 by omega); have hly := Nat.mod_lt (a * y) (show n > 0 by omega)
  have same : ∀ u v : Nat, v ≤ u → u ≤ n / 2 → 1 ≤ v → a * u % n = a * v % n → u = v := by
    intro u v hvu hu hv h; have := sub_dvd h; rw [← Nat.mul_sub] at this; have := coprime_dvd hc this
    rcases Nat.eq_zero_or_pos (u - v) with h0 | h0
    · omega
    · have := Nat.le_of_dvd h0 this
      omega
  have eq : a * x % n = a * y % n → x = y := by
    intro h
    rcases Nat.le_total y x with hle | hle
    · exact same x y hle (by omega) (by omega) h
    · exact (same y x hle (by omega) (by omega) h.symm).symm
  have op : a * x % n + a * y % n = n → x = y := by
    intro h; have := add_dvd h; rw [← Nat.mul_add] at this; have := coprime_dvd hc this; have := Nat.le_of_dvd (by omega) this; omega
  unfold pi at e
  split at e <;> split at e
  · exact eq (by omega)
  · exact op (by omega)
  · exact op (by omega)
  · exact eq (by omega)
theorem pi_perm {a n : Nat} (hn : n % 2 = 1) (hc : Nat.Coprime a n) : ((H n).map (pi a n)).Perm (H n) := by
  refine perm_of_sub _ _ (nodup_map_on _ _ (List.nodup_range' 1) (pi_inj hn hc)) ?_ (by simp); intro x hx; obtain ⟨k, hk, rfl⟩ := List.mem_map.1 hx; have h1 := mod_pos_of hc hk; have hk' := mem_H.1 hk; have hl := Nat.mod_lt (a * k) (show n > 0 by omega); rw [mem_H]; unfold pi
  split <;> omega
theorem sum_map_add (l : List Nat) (f g : Nat → Nat) : (l.map fun k => f k + g k).sum = (l.map f).sum + (l.map g).sum := by
  induction l with
  | nil => rfl
  | cons a l ih => simp only [List.map_cons, List.sum_cons, ih]; omega
theorem sum_map_mod (l : List Nat) (f g : Nat → Nat) (m : Nat) (h : ∀ k ∈ l, f k % m = g k % m) : (l.map f).sum % m = (l.map g).sum % m := by
  induction l with
  | nil => rfl
  | cons a l ih =>
    simp only [List.map_cons, List.sum_cons]; rw [Nat.add_mod, h a List.mem_cons_self, ih fun k hk => h k (List.mem_cons_of_mem _ hk), ← Nat.add_mod]
theorem sum_map_pi {a n : Nat} (hn : n % 2 = 1) (hc : Nat.Coprime a n) (f : Nat → Nat) : ((H n).map fun k => f (pi a n k)).sum = ((H n).map f).sum := by
  have := (pi_perm hn hc).map f; rw [List.map_map] at this; exact this.sum_nat
theorem ep_mul {a b n k : Nat} (hn : n % 2 = 1) (hb : Nat.Coprime b n) (ha : Nat.Coprime a n) (hk : k ∈ H n) :
    (ep b n k + ep a n (pi b n k)) % 2 = ep (a * b) n k % 2 := by
  have h1 := mod_pos_of hb hk; have hk' := mem_H.1 hk; have hl := Nat.mod_lt (b * k) (show n > 0 by omega); have hp : pi b n k ∈ H n := (pi_perm hn hb).subset (List.mem_map.2 ⟨k, hk, rfl⟩); have h2 := mod_pos_of ha hp
  have hm : a * b * k % n = a * (b * k % n) % n := by rw [Nat.mul_assoc, Nat.mul_mod, Nat.mul_mod a (b * k % n), Nat.mod_mod]
  unfold ep; unfold pi at h2 ⊢
  by_cases h : n / 2 < b * k % n
  · rw [if_pos h] at h2
    simp only [if_pos h]; rw [hm]
    have e : (a * (n - b * k % n) + a * (b * k % n)) % n = 0 := by
      rw [← Nat.mul_add, Nat.sub_add_cancel (by omega)]; exact Nat.mul_mod_left a n
    have l1 := Nat.mod_lt (a * (n - b * k % n)) (show n > 0 by omega); have l2 := Nat.mod_lt (a * (b * k % n)) (show n > 0 by omega); rw [Nat.add_mod] at e; generalize a * (n - b * k % n) % n = s at *; generalize a * (b * k % n) % n = t at *
    have : s + t = n := by
      rcases Nat.lt_or_ge (s + t) n with h' | h'
      · rw [Nat.mod_eq_of_lt h'] at e; omega
      · have h3 : (s + t) % n = s + t - n := by
          rw [Nat.mod_eq_sub_mod h', Nat.mod_eq_of_lt (by omega)]
        omega
    split <;> split <;> omega
  · rw [if_neg h] at h2
    simp only [if_neg h]; rw [hm]
    split <;> rfl
theorem mu_mul {a b n : Nat} (hn : n % 2 = 1) (ha : Nat.Coprime a n) (hb : Nat.Coprime b n) : mu (a * b) n % 2 = (mu a n + mu b n) % 2 := by
  unfold mu; rw [← sum_map_mod (H n) (fun k => ep b n k + ep a n (pi b n k)) (ep (a * b) n) 2 (fun k hk => ep_mul hn hb ha hk), sum_map_add, sum_map_pi hn hb (ep a n), Nat.add_comm]
theorem mu_mod (a n : Nat) : mu (a % n) n = mu a n := by
  unfold mu
  congr 1
  apply List.map_congr_left
  intro k _; unfold ep; rw [Nat.mod_mul_mod]
theorem sum_map_zero (l : List Nat) (f : Nat → Nat) (h : ∀ k ∈ l, f k = 0) : (l.map f).sum = 0 := by
  induction l with
  | nil => rfl
  | cons a l ih => simp only [List.map_cons, List.sum_cons, h a List.mem_cons_self, ih fun k hk => h k (List.mem_cons_of_mem _ hk)]
theorem mu_one (n : Nat) : mu 1 n = 0 := by
  unfold mu
  apply sum_map_zero
  intro k hk; have := mem_H.1 hk; unfold ep; rw [Nat.one_mul, if_neg]; have := Nat.mod_le k n; omega
theorem mu_floor {a n : Nat} (ho : a % 2 = 1) (hn : n % 2 = 1) (hc : Nat.Coprime a n) : mu a n % 2 = ((H n).map fun k => a * k / n).sum % 2 := by
  have h : ((H n).map fun k => k).sum % 2 = ((H n).map fun k => a * k / n + (pi a n k + ep a n k)).sum % 2 := by
    apply sum_map_mod
    intro k hk; have hk' := mem_H.1 hk; have hl := Nat.mod_lt (a * k) (show n > 0 by omega); have hd := Nat.div_add_mod (a * k) n
    have e1 : a * k % 2 = k % 2 := by rw [Nat.mul_mod, ho, Nat.one_mul, Nat.mod_mod]
    have e2 : n * (a * k / n) % 2 = (a * k / n) % 2 := by rw [Nat.mul_mod, hn, Nat.one_mul, Nat.mod_mod]
    rw [← e1]; unfold pi ep; generalize a * k / n = f at *; generalize n * f = g at *
    split <;> omega
  rw [sum_map_add, sum_map_add, sum_map_pi hn hc (fun k => k)] at h; unfold mu; omega
theorem count_lt (n x : Nat) (hn : 0 < n) (hx : ¬ n ∣ x) (A : Nat) : ((List.range' 1 A).map fun l => if n * l < x then 1 else 0).sum = min A (x / n) := by
  induction A with
  | zero => simp
  | succ A ih =>
    rw [List.range'_concat, List.map_append, List.sum_append_nat, ih]; simp only [List.map_cons, List.map_nil, List.sum_cons, List.sum_nil, Nat.one_mul, Nat.add_zero]; have hle : (1 + A ≤ x / n) ↔ (1 + A) * n ≤ x := Nat.le_div_iff_mul_le hn
    by_cases h : n * (1 + A) < x
    · rw [if_pos h]
      have : 1 + A ≤ x / n := hle.2 (by rw [Nat.mul_comm]; omega); omega
    · rw [if_neg h]
      have : ¬ (1 + A ≤ x / n) := fun h' => by
        have h2 := hle.1 h'; rw [Nat.mul_comm] at h2
        have : x = n * (1 + A) := by omega
        exact hx ⟨_, this⟩
      omega
theorem sum_swap (l m : List Nat) (f : Nat → Nat → Nat) : (l.map fun k => (m.map fun j => f k j).sum).sum = (m.map fun j => (l.map fun k => f k j).sum).sum := by
  induction l with
  | nil => simp; exact (sum_map_zero m (fun _ => 0) fun _ _ => rfl).symm
  | cons a l ih => simp only [List.map_cons, List.sum_cons, ih]; rw [sum_map_add]
theorem sum_map_congr (l : List Nat) (f g : Nat → Nat) (h : ∀ k ∈ l, f k = g k) : (l.map f).sum = (l.map g).sum := by
  rw [List.map_congr_left h]
theorem floor_count {a n : Nat} (hn : n % 2 = 1) (ha : a % 2 = 1) (hc : Nat.Coprime a n) : ((H n).map fun k => a * k / n).sum = ((H n).map fun k => ((H a).map fun l => if n * l < a * k then 1 else 0).sum).sum := by
  apply sum_map_congr
  intro k hk; have hk' := mem_H.1 hk; have hp := mod_pos_of hc hk; unfold H; rw [count_lt n (a * k) (by omega) (fun h => by have := Nat.mod_eq_zero_of_dvd h; omega)]
  have : a * k / n ≤ a / 2 := by
    have h1 : a * k ≤ a * (n / 2) := Nat.mul_le_mul_left a hk'.2
    have h2 : a * k / n < a / 2 + 1 := by
      rw [Nat.div_lt_iff_lt_mul (by omega)]
      have e1 : a = 2 * (a / 2) + 1 := by omega
      have e2 : n = 2 * (n / 2) + 1 := by omega
      generalize a / 2 = A at *; generalize n / 2 = N at *; subst e1 e2
      have : (2 * A + 1) * N = 2 * (A * N) + N := by rw [Nat.add_mul, Nat.one_mul, Nat.mul_assoc]
      have : (A + 1) * (2 * N + 1) = 2 * (A * N) + A + 2 * N + 1 := by
        rw [Nat.add_mul, Nat.one_mul, Nat.mul_add, Nat.mul_one, ← Nat.mul_assoc, Nat.mul_comm A 2, Nat.mul_assoc]; omega
      omega
    omega
  omega
theorem sum_const (l : List Nat) (c : Nat) : (l.map fun _ => c).sum = l.length * c := by
  induction l with
  | nil => simp
  | cons a l ih => simp only [List.map_cons, List.sum_cons, ih, List.length_cons, Nat.add_mul]; omega
theorem lattice {a n : Nat} (hn : n % 2 = 1) (ha : a % 2 = 1) (hc : Nat.Coprime a n) :
    ((H n).map fun k => a * k / n).sum + ((H a).map fun l => n * l / a).sum = (n / 2) * (a / 2) := by
  rw [floor_count hn ha hc, floor_count ha hn hc.symm, sum_swap (H a) (H n), ← sum_map_add]
  have : ((H n).map fun k => ((H a).map fun l => if n * l < a * k then 1 else 0).sum + ((H a).map fun l => if a * k < n * l then 1 else 0).sum).sum = ((H n).map fun _ => a / 2).sum := by
    apply sum_map_congr
    intro k hk; have hp := mod_pos_of hc hk; rw [← sum_map_add, sum_map_congr (H a) _ (fun _ => 1), sum_const]
    · simp [H]
    · intro l _
      have hne : a * k ≠ n * l := fun e => by
        have := Nat.mod_eq_zero_of_dvd (⟨l, e⟩ : n ∣ a * k); omega
      by_cases h : n * l < a * k
      · rw [if_pos h, if_neg (by omega)]
      · rw [if_neg h, if_pos (by omega)]
  rw [this, sum_const]
  simp [H]
theorem reciprocity {a n : Nat} (hn : n % 2 = 1) (ha : a % 2 = 1) (hc : Nat.Coprime a n) : (mu a n + mu n a) % 2 = (n / 2) * (a / 2) % 2 := by
  rw [← lattice hn ha hc, Nat.add_mod, mu_floor ha hn hc, mu_floor hn ha hc.symm, ← Nat.add_mod]
theorem count_ge (N A : Nat) : ((List.range' 1 A).map fun l => if N < 2 * l then 1 else 0).sum = A - min A (N / 2) := by
  induction A with
  | zero => simp
  | succ A ih =>
    rw [List.range'_concat, List.map_append, List.sum_append_nat, ih]; simp only [List.map_cons, List.map_nil, List.sum_cons, List.sum_nil, Nat.one_mul, Nat.add_zero]
    split <;> omega
theorem mu_two {n : Nat} (hn : n % 2 = 1) : mu 2 n % 2 = if n % 8 = 3 ∨ n % 8 = 5 then 1 else 0 := by
  have : mu 2 n = ((List.range' 1 (n / 2)).map fun l => if n / 2 < 2 * l then 1 else 0).sum := by
    unfold mu
    apply sum_map_congr
    intro k hk; have := mem_H.1 hk; unfold ep; rw [Nat.mod_eq_of_lt (show 2 * k < n by omega)]
  rw [this, count_ge]
  split <;> omega
theorem mu_even {x n : Nat} (hn : n % 2 = 1) (hx : x % 2 = 0) (hc : Nat.Coprime x n) : mu x n % 2 = (mu (x / 2) n + if n % 8 = 3 ∨ n % 8 = 5 then 1 else 0) % 2 := by
  have e : x = 2 * (x / 2) := by omega
  have h2 : Nat.Coprime 2 n := by
    unfold Nat.Coprime; rw [Nat.gcd_rec, hn]; rfl
  have hc2 : Nat.Coprime (x / 2) n := Nat.Coprime.coprime_dvd_left ⟨2, by omega⟩ hc; have := mu_mul hn h2 hc2; rw [← e] at this; rw [this, Nat.add_mod, mu_two hn, Nat.add_comm, Nat.add_mod (mu (x / 2) n)]
  split <;> simp
theorem mu_flip {x n : Nat} (hn : n % 2 = 1) (hx : x % 2 = 1) (hc : Nat.Coprime x n) : mu x n % 2 = (mu (n % x) x + if x % 4 = 3 ∧ n % 4 = 3 then 1 else 0) % 2 := by
  have h := reciprocity hn hx hc; rw [mu_mod]
  have e : (n / 2) * (x / 2) % 2 = if x % 4 = 3 ∧ n % 4 = 3 then 1 else 0 := by
    rw [Nat.mul_mod]
    have h1 : n / 2 % 2 = if n % 4 = 3 then 1 else 0 := by split <;> omega
    have h2 : x / 2 % 2 = if x % 4 = 3 then 1 else 0 := by split <;> omega
    rw [h1, h2]
    by_cases a : n % 4 = 3 <;> by_cases b : x % 4 = 3 <;> simp [a, b]
  rw [e] at h
  split at h <;> split <;> first | omega | (exfalso; omega) | simp_all
def prod (l : List Nat) : Nat := l.prod
theorem prod_mod (l : List Nat) (f g : Nat → Nat) (m : Nat) (h : ∀ k ∈ l, f k % m = g k % m) : (l.map f).prod % m = (l.map g).prod % m := by
  induction l with
  | nil => rfl
  | cons a l ih =>
    simp only [List.map_cons, List.prod_cons]; rw [Nat.mul_mod, h a List.mem_cons_self, ih fun k hk => h k (List.mem_cons_of_mem _ hk), ← Nat.mul_mod]
theorem prod_mul (l : List Nat) (f g : Nat → Nat) : (l.map fun k => f k * g k).prod = (l.map f).prod * (l.map g).prod := by
  induction l with
  | nil => rfl
  | cons a l ih => simp only [List.map_cons, List.prod_cons, ih, Nat.mul_assoc, Nat.mul_left_comm]
theorem prod_const (l : List Nat) (c : Nat) : (l.map fun _ => c).prod = c ^ l.length := by
  induction l with
  | nil => simp
  | cons a l ih => simp only [List.map_cons, List.prod_cons, ih, List.length_cons, Nat.pow_succ, Nat.mul_comm]
theorem prod_pow (l : List Nat) (c : Nat) (f : Nat → Nat) : (l.map fun k => c ^ f k).prod = c ^ (l.map f).sum := by
  induction l with
  | nil => simp
  | cons a l ih => simp only [List.map_cons, List.prod_cons, ih, List.sum_cons, Nat.pow_add]
def IsPrime (p : Nat) : Prop := 2 ≤ p ∧ ∀ m, m ∣ p → m = 1 ∨ m = p
theorem IsPrime.coprime {p a : Nat} (hp : IsPrime p) (h : ¬ p ∣ a) : Nat.Coprime a p := by
  rcases hp.2 (Nat.gcd a p) (Nat.gcd_dvd_right a p) with h1 | h1
  · exact h1
  · exact absurd (h1 ▸ Nat.gcd_dvd_left a p) h
theorem prod_coprime {p : Nat} (hp : IsPrime p) : ∀ l : List Nat, (∀ k ∈ l, 0 < k ∧ k < p) → Nat.Coprime l.prod p
  | [], _ => by simp [Nat.Coprime]
  | a :: l, h => by
    rw [List.prod_cons]; have h1 := h a List.mem_cons_self; exact Nat.Coprime.mul_left (hp.coprime fun hd => by have := Nat.le_of_dvd h1.1 hd; omega) (prod_coprime hp l fun k hk => h k (List.mem_cons_of_mem _ hk))
theorem mod_cancel {p a b c : Nat} (hc : Nat.Coprime c p) (h : a * c % p = b * c % p) : a % p = b % p := by
  have key : ∀ u v : Nat, v ≤ u → u * c % p = v * c % p → u % p = v % p := by
    intro u v hle e; have hd := sub_dvd e; rw [← Nat.sub_mul, Nat.mul_comm] at hd; have hd := coprime_dvd hc hd; obtain ⟨t, ht⟩ := hd
    have : u = v + p * t := by omega
    rw [this, Nat.add_mul_mod_self_left]
  rcases Nat.le_total b a with hle | hle
  · exact key a b hle h
  · exact (key b a hle h.symm).symm
theorem gauss {p a : Nat} (hp : IsPrime p) (ho : p % 2 = 1) (ha : ¬ p ∣ a) : a ^ (p / 2) % p = (p - 1) ^ mu a p % p := by
  have hc := hp.coprime ha; have hP := hp.1; refine mod_cancel (c := (H p).prod) (prod_coprime hp _ fun k hk => by have := mem_H.1 hk; omega) ?_
  have e1 : a ^ (p / 2) * (H p).prod = ((H p).map fun k => a * k).prod := by
    rw [prod_mul, prod_const, List.map_id']
    simp [H]
  have e2 : (p - 1) ^ mu a p * (H p).prod = ((H p).map fun k => (p - 1) ^ ep a p k * pi a p k).prod := by
    rw [prod_mul, prod_pow]; have := (pi_perm ho hc).prod_nat; rw [this]; rfl
  rw [e1, e2]
  apply prod_mod
  intro k hk; have hl := Nat.mod_lt (a * k) (show p > 0 by omega); have h1 := mod_pos_of hc hk; unfold ep pi
  split
  · rw [Nat.pow_one]
    generalize a * k % p = r at *
    have e : (p - 1) * (p - r) = p * (p - r - 1) + r := by
      obtain ⟨s, rfl⟩ : ∃ s, p = r + s + 1 := ⟨p - r - 1, by omega⟩
      have h3 : r + s + 1 - 1 = r + s := by omega
      have h4 : r + s + 1 - r = s + 1 := by omega
      rw [h3, h4, Nat.add_sub_cancel, Nat.mul_add, Nat.add_mul (r + s) 1]; omega
    rw [e, Nat.mul_add_mod, Nat.mod_eq_of_lt hl]
  · rw [Nat.pow_zero, Nat.one_mul, Nat.mod_mod]
theorem pm_pow {p : Nat} (hp : 3 ≤ p) (m : Nat) : (p - 1) ^ m % p = if m % 2 = 0 then 1 else p - 1 := by
  induction m with
  | zero => simp; exact Nat.mod_eq_of_lt (by omega)
  | succ m ih =>
    rw [Nat.pow_succ, Nat.mul_mod, ih, Nat.mod_eq_of_lt (show p - 1 < p by omega)]
    by_cases h : m % 2 = 0
    · rw [if_pos h, if_neg (by omega), Nat.one_mul, Nat.mod_eq_of_lt (by omega)]
    · rw [if_neg h, if_pos (by omega)]
      obtain ⟨s, rfl⟩ : ∃ s, p = s + 3 := ⟨p - 3, by omega⟩
      have : (s + 3 - 1) * (s + 3 - 1) = (s + 3) * (s + 1) + 1 := by
        have h3 : s + 3 - 1 = s + 2 := by omega
        rw [h3, Nat.add_mul s 2, Nat.mul_add s s 2, Nat.add_mul s 3, Nat.mul_add s s 1]; omega
      rw [this, Nat.mul_add_mod, Nat.mod_eq_of_lt (by omega)]
theorem euler {p a : Nat} (hp : IsPrime p) (ho : p % 2 = 1) (ha : ¬ p ∣ a) : a ^ (p / 2) % p = 1 ↔ mu a p % 2 = 0 := by
  have hP := hp.1; rw [gauss hp ho ha, pm_pow (by omega)]
  split <;> omega
def noDiv (n : Nat) : Nat → Nat → Bool
  | 0, lo => n % lo != 0
  | k + 1, lo => noDiv n k lo && noDiv n k (lo + 2 ^ k)
theorem noDiv_spec (n : Nat) : ∀ k lo, noDiv n k lo = true → ∀ d, lo ≤ d → d < lo + 2 ^ k → ¬ d ∣ n
  | 0, lo, h, d, h1, h2 => by
    have : d = lo := by simp at h2; omega
    subst this; intro hd
    simp [noDiv] at h
    exact h (Nat.mod_eq_zero_of_dvd hd)
  | k + 1, lo, h, d, h1, h2 => by
    simp only [noDiv, Bool.and_eq_true] at h; rw [Nat.pow_succ] at h2
    rcases Nat.lt_or_ge d (lo + 2 ^ k) with h' | h'
    · exact noDiv_spec n k lo h.1 d h1 h'
    · exact noDiv_spec n k (lo + 2 ^ k) h.2 d h' (by omega)
theorem prime_of {n k : Nat} (h2 : 2 ≤ n) (h : noDiv n k 2 = true) (hb : n < (2 + 2 ^ k) * (2 + 2 ^ k)) : IsPrime n := by
  refine ⟨h2, fun m hm => ?_⟩; have hs := noDiv_spec n k 2 h; obtain ⟨t, ht⟩ := hm
  rcases Nat.lt_or_ge m (2 + 2 ^ k) with h1 | h1
  · rcases Nat.lt_or_ge m 2 with h3 | h3
    · rcases Nat.eq_zero_or_pos m with h4 | h4
      · subst h4; omega
      · exact .inl (by omega)
    · exact absurd ⟨t, ht⟩ (hs m h3 h1)
  · right
    rcases Nat.lt_or_ge t (2 + 2 ^ k) with h4 | h4
    · rcases Nat.lt_or_ge t 2 with h5 | h5
      · have : t = 1 := by
          rcases Nat.eq_zero_or_pos t with h6 | h6
          · subst h6; omega
          · omega
        subst this; omega
      · exact absurd ⟨m, by rw [Nat.mul_comm]; exact ht⟩ (hs t h5 h4)
    · have := Nat.mul_le_mul h1 h4
      omega
end Go.Proofs.Ytdbamhckgaoibaa.Sig
namespace Go.Proofs.Ytdbamhckgaoibaa.Sig
theorem prime_P : IsPrime 2147483579 := prime_of (k := 16) (by omega) (by decide +kernel) (by decide)
theorem prime_Q : IsPrime 1073741789 := prime_of (k := 15) (by omega) (by decide +kernel) (by decide)
end Go.Proofs.Ytdbamhckgaoibaa.Sig
namespace Go.Proofs.Ytdbamhckgaoibaa.P
open Go.RowKit Go.Proofs.YtdbamhckgaoibaaW.PrintWords Go.Proofs.YtdbamhckgaoibaaW.PrintLast Go.Proofs.YtdbamhckgaoibaaW.PrintMore
attribute [local go_sem] max2_int min2_int max_two min_two max_three min_three max_four min_four
set_option linter.unusedVariables false
set_option linter.unusedSimpArgs false
def group_least.l0 : Nat → Int → List Int → Int → Int → Option (Int)
 | 0, _, _, _, _ => none
 | k + 1, x3, x6, x7, x8 => if x8 < x7 then (if 0 ≤ x8 then (if x8 < (x6.length : Int) then (group_least.l0 k (Int.tmod (wrap64 (x3 * (wrap64 ((Int.tmod (rd x6 x8) 1073741789) + 1073741789)))) 1073741789) x6 x7 (wrap64 (x8 + 1))) else (none)) else (none)) else (some x3)
def group_least.f (k : Nat) (l0 : List Int) : Option (Int) := group_least.l0 k 1 l0 (l0.length : Int) 0
set_option maxHeartbeats 8000000 in
set_option maxRecDepth 100000 in
theorem group_least.calls (k : Nat) (A0 : Option Addr) (c0 : Nat) (l0 : List Int) (r : Int) (w : World) (hr0 : Kd.C (Kd.int .i64) w A0 l0.length l0) (hc0 : l0.length ≤ c0) (h : group_least.f k l0 = some r) :
  Calls Try.prog 106 #[.slice A0 l0.length c0] w fun e w' => e = .returned (.int .i64 r) ∧ Drawn0 w w' := by
 have HR0 := Aside0.mk hr0; have HC0 := Aside0.mk hc0; clear hr0 hc0; have H : (group_least.l0 k 1 l0 (l0.length : Int) 0) = some r := h; clear h; have H' := Aside0.mk H; clear H
 go_enter Try.func106, Try.ntmps106
 go_wp2
 go_loopg [3, 8] k (fun kq v3 v8 w' => ∃ (x3_1 : Int) (x8_1 : Int), v3 = .int .i64 x3_1 ∧ v8 = .int .i64 x8_1 ∧ Aside0 (group_least.l0 kq x3_1 l0 (l0.length : Int) x8_1 = some r) ∧ Aside0 (kq ≤ k) ∧ Drawn0 w w')
 case atStart => exact ⟨(1), (0), rf_, rf_, H', ⟨Nat.le_refl _⟩, dr_⟩
 case round =>
  clear H'; (try clear c1); obtain ⟨x3_1, x8_1, rfl, rfl, HA, HK1, ⟨m1, rfl⟩⟩ := hrel
  cases gk with
  | zero => exact absurd HA.out (by simp [group_least.l0])
  | succ k1 =>
   have H := HA.out; clear HA; simp only [group_least.l0] at H
   by_cases c2 : x8_1 < (l0.length : Int)
   ·rw [if_pos c2] at H
    have c2b0 : decide (x8_1 < (l0.length : Int)) = true := decide_eq_true c2; clear c2
    by_cases c3 : 0 ≤ x8_1
    ·rw [if_pos c3] at H
     have c3b0 : decide (0 ≤ x8_1) = true := decide_eq_true c3; clear c3
     by_cases c4 : x8_1 < (l0.length : Int)
     ·rw [if_pos c4] at H
      have c4b0 : decide (x8_1 < (l0.length : Int)) = true := decide_eq_true c4; clear c4; have H' := Aside0.mk H; clear H; have p101 : 0 ≤ (x8_1 : Int) := of_decide_eq_true as_; have q101 : x8_1 < (l0.length : Int) := of_decide_eq_true as_; obtain ⟨ad101, e101, hx101_0⟩ := Kd.at_int HR0.out x8_1 p101 q101; cases e101; replace p101 := eq_true p101; replace q101 := eq_true q101; go_wp2
      go_roundg k1
      case measure => have := HK1.out; omega
      case rel => exact ⟨(Int.tmod (wrap64 (x3_1 * (wrap64 ((Int.tmod (rd l0 x8_1) 1073741789) + 1073741789)))) 1073741789), (wrap64 (x8_1 + 1)), rf_, rf_, H', ⟨by have := HK1.out; omega⟩, dr_⟩
     ·rw [if_neg c4] at H
      exact absurd H (by simp)
    ·rw [if_neg c3] at H
     exact absurd H (by simp)
   ·rw [if_neg c2] at H
    have c2b0 : decide (x8_1 < (l0.length : Int)) = false := decide_eq_false c2; clear c2; obtain rfl := Option.some.inj H; go_wp2
    go_ret
    exact ⟨rf_, dr_⟩
def program_within.f (a0 : Int) (a1 : Int) (a2 : Int) : Option (Bool) := if a1 ≤ a0 then (some (decide (a0 ≤ a2))) else (some false)
set_option maxHeartbeats 8000000 in
set_option maxRecDepth 100000 in
theorem program_within.calls (a0 : Int) (a1 : Int) (a2 : Int) (r : Bool) (w : World) (h : program_within.f a0 a1 a2 = some r) :
  Calls Try.prog 159 #[.int .i64 a0, .int .i64 a1, .int .i64 a2] w fun e w' => e = .returned (.bool r) ∧ Drawn0 w w' := by
 have H : (if a1 ≤ a0 then (some (decide (a0 ≤ a2))) else (some false)) = some r := h; clear h
 by_cases c4 : a1 ≤ a0
 ·rw [if_pos c4] at H
  have c4b0 : decide (a1 ≤ a0) = true := decide_eq_true c4; clear c4; obtain rfl := Option.some.inj H
  go_enter Try.func159, Try.ntmps159
  go_wp2
  go_ret
  exact ⟨rf_, dr_⟩
 ·rw [if_neg c4] at H
  have c4b0 : decide (a1 ≤ a0) = false := decide_eq_false c4; clear c4; obtain rfl := Option.some.inj H
  go_enter Try.func159, Try.ntmps159
  go_wp2
  go_ret
  exact ⟨rf_, dr_⟩
def program_isPerson.f (a0 : Int) : Option (Bool) := (program_within.f a0 0 63).bind fun t102 => (some t102)
set_option maxHeartbeats 8000000 in
set_option maxRecDepth 100000 in
theorem program_isPerson.calls (a0 : Int) (r : Bool) (w : World) (h : program_isPerson.f a0 = some r) :
  Calls Try.prog 160 #[.int .i64 a0] w fun e w' => e = .returned (.bool r) ∧ Drawn0 w w' := by
 have H : ((program_within.f a0 0 63).bind fun t102 => (some t102)) = some r := h; clear h; replace H := Option.bind_eq_some_iff.mp H; obtain ⟨t102, A20, H⟩ := H; replace H : (some t102) = some r := H; have A2 := Aside0.mk A20; clear A20; obtain rfl := Option.some.inj H
 go_enter Try.func160, Try.ntmps160
 go_wp2_with (first | ((with_reducible refine gate_callee (f := 159) rfl ?_); refine goesL_ (some 4) rfl rfl Try.func159 (by kernel_rfl) rfl #[.int .i64 a0, .int .i64 0, .int .i64 63] rfl mp_ ?_; (with_reducible refine (program_within.calls a0 0 63 t102 _ A2.out).mono ?_); rintro e w' ⟨rfl, ⟨nd, rfl⟩⟩; refine ⟨_, rfl, ?_⟩))
 go_ret
 exact ⟨rf_, dr_⟩
def dealing_columns.f (l0_0 : List (List Int)) (l0_1 : List Int) : Option (Int) := if (l0_0.length : Int) = 0 then (some 1) else (if 0 < (l0_0.length : Int) then (some ((rd_L1 l0_0 0).length : Int)) else (none))
set_option maxHeartbeats 8000000 in
set_option maxRecDepth 100000 in
theorem dealing_columns.calls (A0_0 : Option Addr) (c0_0 : Nat) (l0_0 : List (List Int)) (A0_1 : Option Addr) (c0_1 : Nat) (l0_1 : List Int) (r : Int) (w : World) (hr0_0 : Kd.C (Kd.slice 3 (Kd.int .i64)) w A0_0 l0_0.length l0_0) (hc0_0 : l0_0.length ≤ c0_0) (hr0_1 : Kd.C (Kd.int .i64) w A0_1 l0_1.length l0_1) (hc0_1 : l0_1.length ≤ c0_1) (h : dealing_columns.f l0_0 l0_1 = some r) :
  Calls Try.prog 84 #[.agg #[.slice A0_0 l0_0.length c0_0, .slice A0_1 l0_1.length c0_1]] w fun e w' => e = .returned (.int .i64 r) ∧ Below w.heap.size w w' := by
 have hu25 := Try.underlying25; have HR0_0 := Aside0.mk hr0_0; have HC0_0 := Aside0.mk hc0_0; clear hr0_0 hc0_0; have HR0_1 := Aside0.mk hr0_1; have HC0_1 := Aside0.mk hc0_1; clear hr0_1 hc0_1; have HB := Aside0.mk (Below.refl w.heap.size w); have H : (if (l0_0.length : Int) = 0 then (some 1) else (if 0 < (l0_0.length : Int) then (some ((rd_L1 l0_0 0).length : Int)) else (none))) = some r := h; clear h
 by_cases c2 : (l0_0.length : Int) = 0
 ·rw [if_pos c2] at H
  have c2b0 : ((l0_0.length : Int) == 0) = true := beq_iff_eq.mpr c2; have c2b1 : ((l0_0.length : Int) != 0) = false := bne_eq_false_iff_eq.mpr c2; clear c2; obtain rfl := Option.some.inj H
  go_enter Try.func84, Try.ntmps84
  go_wp2_with (first | ((with_reducible refine gate_dst (N := 1) rfl ?_); refine box_event ?hg (N := 1) ?hd (cs := #[.slice A0_0 l0_0.length c0_0, .slice A0_1 l0_1.length c0_1]) (t := 25) ?hr ?_; (case hd => rfl); (case hg => rfl); (case hr => first | (go_simp; done) | (go_simp; rfl)); intro gb103 hg w3 hbox hb; have n0_ := Aside0.mk (below_step hb_ hb); have n1_ := Aside0.mk (hbox); have n2_ := Aside0.mk ((by rw [hg]; exact (below_size hb_) : w.heap.size ≤ gb103)); have n3_ := Aside0.mk ((by rw [hg]; exact (below_size hb_) : w.heap.size ≤ gb103)); clear HB; have HB := n0_; have BK103 := n1_; have GW103 := n2_; have GE_ := n3_; clear n0_ n1_ n2_ n3_; clear hb hbox hg; have hcz4_0 : w3.cell? ⟨gb103, 0, none⟩ = some (.slice A0_0 l0_0.length c0_0) := (blk_cell BK103.out 0).trans rfl; have hcz4_1 : w3.cell? ⟨gb103, 1, none⟩ = some (.slice A0_1 l0_1.length c0_1) := (blk_cell BK103.out 1).trans rfl; have hfz4_0 := blk_frozen BK103.out 0; have hfz4_1 := blk_frozen BK103.out 1))
  go_ret
  exact ⟨by first | rfl | (simp [errW_none, errW_some] <;> rfl) | (simp [*, errW_none, errW_some] <;> rfl), by repeat (first | (with_reducible first | exact HB.out | apply below_alloc | apply pw_below_drewN | apply below_drew1 | refine below_set ?_ GE_.out) | exact HB.out)⟩
 ·rw [if_neg c2] at H
  have c2b0 : ((l0_0.length : Int) == 0) = false := beq_eq_false_iff_ne.mpr c2; have c2b1 : ((l0_0.length : Int) != 0) = true := bne_iff_ne.mpr c2
  have c2b2 : ¬ (l0_0 = []) := fun h_ => c2 (by rw [h_]; rfl)
  by_cases c5 : 0 < (l0_0.length : Int)
  ·rw [if_pos c5] at H
   have c5b0 : decide (0 < (l0_0.length : Int)) = true := decide_eq_true c5; have c5b1 : decide (0 < l0_0.length) = true := decide_eq_true (by omega); clear c5; obtain rfl := Option.some.inj H
   go_enter Try.func84, Try.ntmps84
   go_wp2_with (first | ((with_reducible refine gate_dst (N := 1) rfl ?_); refine box_event ?hg (N := 1) ?hd (cs := #[.slice A0_0 l0_0.length c0_0, .slice A0_1 l0_1.length c0_1]) (t := 25) ?hr ?_; (case hd => rfl); (case hg => rfl); (case hr => first | (go_simp; done) | (go_simp; rfl)); intro gb103 hg w6 hbox hb; have n0_ := Aside0.mk (below_step hb_ hb); have n1_ := Aside0.mk (hbox); have n2_ := Aside0.mk ((by rw [hg]; exact (below_size hb_) : w.heap.size ≤ gb103)); have n3_ := Aside0.mk ((by rw [hg]; exact (below_size hb_) : w.heap.size ≤ gb103)); clear HB; have HB := n0_; have BK103 := n1_; have GW103 := n2_; have GE_ := n3_; clear n0_ n1_ n2_ n3_; clear hb hbox hg; have hcz7_0 : w6.cell? ⟨gb103, 0, none⟩ = some (.slice A0_0 l0_0.length c0_0) := (blk_cell BK103.out 0).trans rfl; have hcz7_1 : w6.cell? ⟨gb103, 1, none⟩ = some (.slice A0_1 l0_1.length c0_1) := (blk_cell BK103.out 1).trans rfl; have hfz7_0 := blk_frozen BK103.out 0; have hfz7_1 := blk_frozen BK103.out 1; have p104 : 0 ≤ (0 : Int) := (by omega); have q104 : 0 < (l0_0.length : Int) := of_decide_eq_true as_; obtain ⟨ad104, A104_0, c104_0, e104, hx104_0, hl104_0, hi104_0⟩ := at_L1 HR0_0.out 0 p104 q104; cases e104; have qi104 : (0 < l0_0.length) = True := eq_true (by omega); (try rw [show ((0 : Int)).toNat = 0 from rfl] at hx104_0); (try rw [Addr.add_zero'] at hx104_0); replace hx104_0 := (HB.out.cell (World.block_lt_of_cell? w _ hx104_0)).trans hx104_0; have HR104_0 := Aside0.mk hi104_0; have HC104_0 := Aside0.mk hl104_0; clear hi104_0 hl104_0; replace p104 := eq_true p104; replace q104 := eq_true q104))
   go_ret
   exact ⟨by first | rfl | (simp [errW_none, errW_some] <;> rfl) | (simp [*, errW_none, errW_some] <;> rfl), by repeat (first | (with_reducible first | exact HB.out | apply below_alloc | apply pw_below_drewN | apply below_drew1 | refine below_set ?_ GE_.out) | exact HB.out)⟩
  ·rw [if_neg c5] at H
   exact absurd H (by simp)
def field_Mod.f (a0 : Int) : Option (Int) := if (Int.tmod a0 1073741789) < 0 then (some (wrap64 ((Int.tmod a0 1073741789) + 1073741789))) else (some (Int.tmod a0 1073741789))
set_option maxHeartbeats 8000000 in
set_option maxRecDepth 100000 in
theorem field_Mod.calls (a0 : Int) (r : Int) (w : World) (h : field_Mod.f a0 = some r) :
  Calls Try.prog 122 #[.int .i64 a0] w fun e w' => e = .returned (.int .i64 r) ∧ Drawn0 w w' := by
 have H : (if (Int.tmod a0 1073741789) < 0 then (some (wrap64 ((Int.tmod a0 1073741789) + 1073741789))) else (some (Int.tmod a0 1073741789))) = some r := h; clear h
 by_cases c2 : (Int.tmod a0 1073741789) < 0
 ·rw [if_pos c2] at H
  have c2b0 : decide ((Int.tmod a0 1073741789) < 0) = true := decide_eq_true c2; clear c2; obtain rfl := Option.some.inj H
  go_enter Try.func122, Try.ntmps122
  go_wp2
  go_ret
  exact ⟨rf_, dr_⟩
 ·rw [if_neg c2] at H
  have c2b0 : decide ((Int.tmod a0 1073741789) < 0) = false := decide_eq_false c2; clear c2; obtain rfl := Option.some.inj H
  go_enter Try.func122, Try.ntmps122
  go_wp2
  go_ret
  exact ⟨rf_, dr_⟩
end Go.Proofs.Ytdbamhckgaoibaa.P
namespace Go.Proofs.Ytdbamhckgaoibaa.P
open Go.RowKit Go.Proofs.YtdbamhckgaoibaaW.PrintWords Go.Proofs.YtdbamhckgaoibaaW.PrintLast Go.Proofs.YtdbamhckgaoibaaW.PrintMore
theorem mod_math (a : Int) : field_Mod.f a = some (a % 1073741789) := by
  unfold field_Mod.f wrap64; have h := Int.tmod_eq_emod (a := a) (b := 1073741789); have h2 : (1073741789 : Int).natAbs = 1073741789 := rfl; rw [h2] at h; have h3 := Int.dvd_iff_emod_eq_zero (a := (1073741789 : Int)) (b := a)
  by_cases c : 0 ≤ a ∨ (1073741789 : Int) ∣ a
  · rw [if_pos c] at h
    rw [if_neg (by omega)]; congr 1; omega
  · rw [if_neg c] at h
    have : a % 1073741789 ≠ 0 := fun e => c (.inr (h3.2 e))
    rw [if_pos (by omega)]; congr 1; omega
def field_Mod_m.f (a : Int) : Option Int := some (a % 1073741789)
theorem field_Mod_m.calls (a0 : Int) (r : Int) (w : World) (h : field_Mod_m.f a0 = some r) :
    Calls Try.prog 122 #[.int .i64 a0] w fun e w' => e = .returned (.int .i64 r) ∧ Drawn0 w w' :=
  field_Mod.calls a0 r w ((mod_math a0).trans h)
end Go.Proofs.Ytdbamhckgaoibaa.P
namespace Go.Proofs.Ytdbamhckgaoibaa.P
open Go.RowKit Go.Proofs.YtdbamhckgaoibaaW.PrintWords Go.Proofs.YtdbamhckgaoibaaW.PrintLast Go.Proofs.YtdbamhckgaoibaaW.PrintMore
attribute [local go_sem] max2_int min2_int max_two min_two max_three min_three max_four min_four
set_option linter.unusedVariables false
set_option linter.unusedSimpArgs false
def field_sum.l0 : Nat → Int → List Int → Int → Int → Option (Int)
 | 0, _, _, _, _ => none
 | k + 1, x3, x6, x7, x8 => if x8 < x7 then (if 0 ≤ x8 then (if x8 < (x6.length : Int) then ((field_Mod_m.f (rd x6 x8)).bind fun t106 => (field_sum.l0 k (Int.tmod (wrap64 (x3 + t106)) 1073741789) x6 x7 (wrap64 (x8 + 1)))) else (none)) else (none)) else (some x3)
def field_sum.f (k : Nat) (l0 : List Int) : Option (Int) := field_sum.l0 k 0 l0 (l0.length : Int) 0
set_option maxHeartbeats 8000000 in
set_option maxRecDepth 100000 in
theorem field_sum.calls (k : Nat) (A0 : Option Addr) (c0 : Nat) (l0 : List Int) (r : Int) (w : World) (hr0 : Kd.C (Kd.int .i64) w A0 l0.length l0) (hc0 : l0.length ≤ c0) (h : field_sum.f k l0 = some r) :
  Calls Try.prog 107 #[.slice A0 l0.length c0] w fun e w' => e = .returned (.int .i64 r) ∧ Drawn0 w w' := by
 have HR0 := Aside0.mk hr0; have HC0 := Aside0.mk hc0; clear hr0 hc0; have H : (field_sum.l0 k 0 l0 (l0.length : Int) 0) = some r := h; clear h; have H' := Aside0.mk H; clear H
 go_enter Try.func107, Try.ntmps107
 go_wp2
 go_loopg [3, 8] k (fun kq v3 v8 w' => ∃ (x3_1 : Int) (x8_1 : Int), v3 = .int .i64 x3_1 ∧ v8 = .int .i64 x8_1 ∧ Aside0 (field_sum.l0 kq x3_1 l0 (l0.length : Int) x8_1 = some r) ∧ Aside0 (kq ≤ k) ∧ Drawn0 w w')
 case atStart => exact ⟨(0), (0), rf_, rf_, H', ⟨Nat.le_refl _⟩, dr_⟩
 case round =>
  clear H'; (try clear c1); obtain ⟨x3_1, x8_1, rfl, rfl, HA, HK1, ⟨m1, rfl⟩⟩ := hrel
  cases gk with
  | zero => exact absurd HA.out (by simp [field_sum.l0])
  | succ k1 =>
   have H := HA.out; clear HA; simp only [field_sum.l0] at H
   by_cases c2 : x8_1 < (l0.length : Int)
   ·rw [if_pos c2] at H
    have c2b0 : decide (x8_1 < (l0.length : Int)) = true := decide_eq_true c2; clear c2
    by_cases c3 : 0 ≤ x8_1
    ·rw [if_pos c3] at H
     have c3b0 : decide (0 ≤ x8_1) = true := decide_eq_true c3; clear c3
     by_cases c4 : x8_1 < (l0.length : Int)
     ·rw [if_pos c4] at H
      have c4b0 : decide (x8_1 < (l0.length : Int)) = true := decide_eq_true c4; clear c4; replace H := Option.bind_eq_some_iff.mp H; obtain ⟨t106, A50, H⟩ := H; replace H : (field_sum.l0 k1 (Int.tmod (wrap64 (x3_1 + t106)) 1073741789) l0 (l0.length : Int) (wrap64 (x8_1 + 1))) = some r := H; have A5 := Aside0.mk A50; clear A50; have H' := Aside0.mk H; clear H; have p105 : 0 ≤ (x8_1 : Int) := of_decide_eq_true as_; have q105 : x8_1 < (l0.length : Int) := of_decide_eq_true as_; obtain ⟨ad105, e105, hx105_0⟩ := Kd.at_int HR0.out x8_1 p105 q105; cases e105; replace p105 := eq_true p105; replace q105 := eq_true q105; go_wp2_with (first | ((with_reducible refine gate_callee (f := 122) rfl ?_); refine goesL_ (some 14) rfl rfl Try.func122 (by kernel_rfl) rfl #[.int .i64 (rd l0 x8_1)] rfl mp_ ?_; (with_reducible refine (field_Mod_m.calls (rd l0 x8_1) t106 _ A5.out).mono ?_); rintro e w' ⟨rfl, ⟨nd, rfl⟩⟩; refine ⟨_, rfl, ?_⟩))
      go_roundg k1
      case measure => have := HK1.out; omega
      case rel => exact ⟨(Int.tmod (wrap64 (x3_1 + t106)) 1073741789), (wrap64 (x8_1 + 1)), rf_, rf_, H', ⟨by have := HK1.out; omega⟩, dr_⟩
     ·rw [if_neg c4] at H
      exact absurd H (by simp)
    ·rw [if_neg c3] at H
     exact absurd H (by simp)
   ·rw [if_neg c2] at H
    have c2b0 : decide (x8_1 < (l0.length : Int)) = false := decide_eq_false c2; clear c2; obtain rfl := Option.some.inj H; go_wp2
    go_ret
    exact ⟨rf_, dr_⟩
def field_Mul.f (a0 : Int) (a1 : Int) : Option (Int) := (field_Mod_m.f a0).bind fun t111 => ((field_Mod_m.f a1).bind fun t112 => (some (Int.tmod (wrap64 (t111 * t112)) 1073741789)))
set_option maxHeartbeats 8000000 in
set_option maxRecDepth 100000 in
theorem field_Mul.calls (a0 : Int) (a1 : Int) (r : Int) (w : World) (h : field_Mul.f a0 a1 = some r) :
  Calls Try.prog 65 #[.int .i64 a0, .int .i64 a1] w fun e w' => e = .returned (.int .i64 r) ∧ Drawn0 w w' := by
 have H : ((field_Mod_m.f a0).bind fun t111 => ((field_Mod_m.f a1).bind fun t112 => (some (Int.tmod (wrap64 (t111 * t112)) 1073741789)))) = some r := h; clear h; replace H := Option.bind_eq_some_iff.mp H; obtain ⟨t111, A30, H⟩ := H; replace H : ((field_Mod_m.f a1).bind fun t112 => (some (Int.tmod (wrap64 (t111 * t112)) 1073741789))) = some r := H; have A3 := Aside0.mk A30; clear A30; replace H := Option.bind_eq_some_iff.mp H; obtain ⟨t112, A40, H⟩ := H; replace H : (some (Int.tmod (wrap64 (t111 * t112)) 1073741789)) = some r := H; have A4 := Aside0.mk A40; clear A40; obtain rfl := Option.some.inj H
 go_enter Try.func65, Try.ntmps65
 go_wp2_with (first | ((with_reducible refine gate_callee (f := 122) rfl ?_); refine goesL_ (some 6) rfl rfl Try.func122 (by kernel_rfl) rfl #[.int .i64 a0] rfl mp_ ?_; (with_reducible refine (field_Mod_m.calls a0 t111 _ A3.out).mono ?_); rintro e w' ⟨rfl, ⟨nd, rfl⟩⟩; refine ⟨_, rfl, ?_⟩) | ((with_reducible refine gate_callee (f := 122) rfl ?_); refine goesL_ (some 8) rfl rfl Try.func122 (by kernel_rfl) rfl #[.int .i64 a1] rfl mp_ ?_; (with_reducible refine (field_Mod_m.calls a1 t112 _ A4.out).mono ?_); rintro e w' ⟨rfl, ⟨nd, rfl⟩⟩; refine ⟨_, rfl, ?_⟩))
 go_ret
 exact ⟨rf_, dr_⟩
def field_Add.f (k : Nat) (a0 : Int) (a1 : Int) : Option (Int) := (field_sum.f k (([a0, a1] : List Int))).bind fun t110 => (some t110)
set_option maxHeartbeats 8000000 in
set_option maxRecDepth 100000 in
theorem field_Add.calls (k : Nat) (a0 : Int) (a1 : Int) (r : Int) (w : World) (h : field_Add.f k a0 a1 = some r) :
  Calls Try.prog 36 #[.int .i64 a0, .int .i64 a1] w fun e w' => e = .returned (.int .i64 r) ∧ Below w.heap.size w w' := by
 have HB := Aside0.mk (Below.refl w.heap.size w); have H : ((field_sum.f k (([a0, a1] : List Int))).bind fun t110 => (some t110)) = some r := h; clear h
 obtain ⟨y107, hy107⟩ : ∃ y_ : List Int, y_ = (([a0, a1] : List Int)) := ⟨_, rfl⟩
 replace H : ((field_sum.f k y107).bind fun t110 => (some t110)) = some r := by first | (rw [hy107]; with_reducible exact H) | (have H2_ := (Option.bind_some _ _).symm.trans H; rw [hy107]; with_reducible exact H2_) | (have H2_ := (Option.bind_some _ _).symm.trans H; with_reducible exact H2_) | with_reducible exact H | (rw [hy107]; exact H) | exact H
 have Ny107 := Aside0.mk hy107; clear hy107; replace H := Option.bind_eq_some_iff.mp H; obtain ⟨t110, A30, H⟩ := H; replace H : (some t110) = some r := H; have A3 := Aside0.mk A30; clear A30; obtain rfl := Option.some.inj H
 go_enter Try.func36, Try.ntmps36
 go_wp2_with (first | ((with_reducible refine gate_dst (N := 7) rfl ?_); refine Kd.R_lit (Kd.int .i64) _ 3 ?hg (N := 7) ?hd (xs := ([a0, a1] : List Int)) (inner := [.int .i64 a0, .int .i64 a1]) (ok := fun _ => True) (okp := fun _ => True) ?hr ?hp (fun _ hk => hk) trivial (Below.refl _ _) (Nat.le_refl _) (by simp) ?_; (case hd => rfl); (case hg => rfl); (case hr => first | (go_simp; done) | (go_simp; rfl)); (case hp => exact (Reps.one (show Kd.M (Kd.int .i64) _ _ _ a0 [.int .i64 a0] from rfl) (Reps.one (show Kd.M (Kd.int .i64) _ _ _ a1 [.int .i64 a1] from rfl) (Reps.none _ _)))); intro v108 w4 ho5 hb hg_ hnew_; clear hg_ hnew_; (first | rw [← Ny107.out] at ho5 | (simp only [Int.reduceToNat] at ho5; rw [← Ny107.out] at ho5)); have n0_ := Aside0.mk (Kd.R_lower ho5 (below_size hb_)); have n1_ := Aside0.mk (below_step hb_ hb); clear HB; have HO109 := n0_; have HB := n1_; clear n0_ n1_; clear hb ho5; obtain ⟨Ao6, co6, eo6⟩ := Kd.R_slice HO109.out; subst eo6) | ((with_reducible refine gate_callee (f := 107) rfl ?_); refine goesL_ (some 8) rfl rfl Try.func107 (by kernel_rfl) rfl #[.slice Ao6 y107.length co6] rfl mp_ ?_; (with_reducible refine (field_sum.calls k _ _ y107 t110 _ ?side1 ?side2 A3.out).mono ?_); (case side1 => repeat (first | exact (Kd.R_reads' HO109.out).2.2 | (with_reducible refine Kd.C_alloc ?_ _) | (with_reducible refine Kd.C_drewN ?_ _) | (with_reducible refine Kd.C_drew ?_))); (case side2 => exact (Kd.R_reads' HO109.out).2.1); rintro e w' ⟨rfl, ⟨nd, rfl⟩⟩; refine ⟨_, rfl, ?_⟩))
 go_ret
 exact ⟨by first | rfl | (simp [errW_none, errW_some] <;> rfl) | (simp [*, errW_none, errW_some] <;> rfl), by repeat (first | (with_reducible first | exact HB.out | apply below_alloc | apply pw_below_drewN | apply below_drew1) | exact HB.out)⟩
end Go.Proofs.Ytdbamhckgaoibaa.P
namespace Go.Proofs.Ytdbamhckgaoibaa.Sig
theorem emod_range (a : Int) : 0 ≤ a % 1073741789 ∧ a % 1073741789 < 1073741789 := by omega
theorem mul_emod_l (a b : Int) : (a % 1073741789) * b % 1073741789 = a * b % 1073741789 := by rw [Int.mul_emod, Int.emod_emod, ← Int.mul_emod]
theorem mul_emod_r (a b : Int) : a * (b % 1073741789) % 1073741789 = a * b % 1073741789 := by rw [Int.mul_emod, Int.emod_emod, ← Int.mul_emod]
def dot : List Int → List Int → Int
  | a :: a', b :: bs => a * b + dot a' bs
  | _, _ => 0
def less (a b : List Int) (n : Int) : List Int := List.zipWith (fun x y => (x - n * y) % 1073741789) a b
def times (a : List Int) (n : Int) : List Int := a.map fun x => x * n % 1073741789
theorem dot_nil_l (v : List Int) : dot [] v = 0 := rfl
theorem dot_nil_r (a : List Int) : dot a [] = 0 := by cases a <;> rfl
theorem pow_emod (n : Nat) (x m : Int) : (x % m) ^ n % m = x ^ n % m := by
  induction n with
  | zero => simp
  | succ n ih => rw [Int.pow_succ, Int.pow_succ, Int.mul_emod, ih, Int.emod_emod, ← Int.mul_emod]
theorem fermat_gen {p a : Nat} (hp : IsPrime p) (ho : p % 2 = 1) (h : ¬ p ∣ a) : a ^ (p - 1) % p = 1 := by
  have h1 := gauss hp ho h; have hP := hp.1; have h2 := pm_pow (p := p) (by omega) (mu a p)
  have e : a ^ (p - 1) = a ^ (p / 2) * a ^ (p / 2) := by
    rw [← Nat.pow_add]
    congr 1
    omega
  rw [e, Nat.mul_mod, h1, h2]
  split
  · exact Nat.mod_eq_of_lt (by omega)
  · obtain ⟨s, rfl⟩ : ∃ s, p = s + 3 := ⟨p - 3, by omega⟩
    have : (s + 3 - 1) * (s + 3 - 1) = (s + 3) * (s + 1) + 1 := by
      have h3 : s + 3 - 1 = s + 2 := by omega
      rw [h3, Nat.add_mul s 2, Nat.mul_add s s 2, Nat.add_mul s 3, Nat.mul_add s s 1]; omega
    rw [this, Nat.mul_add_mod, Nat.mod_eq_of_lt (by omega)]
def eInv : Nat := 1073741787
theorem eInv_succ : eInv + 1 = 1073741789 - 1 := rfl
def finv (a : Int) : Int := a ^ eInv % 1073741789
theorem fermat {a : Int} (h : a % 1073741789 ≠ 0) (n : Nat) (hn : n = 1073741789 - 1) : a ^ n % 1073741789 = 1 := by
  have e : ((a % 1073741789).toNat : Int) = a % 1073741789 := Int.toNat_of_nonneg (by omega)
  have h1 : ¬ 1073741789 ∣ (a % 1073741789).toNat := fun hd => by omega
  have h2 := fermat_gen prime_Q (by decide) h1; rw [← hn] at h2; rw [← pow_emod, ← e]; have := congrArg (fun n : Nat => (n : Int)) h2; simp only [Int.natCast_emod, Int.natCast_pow] at this; exact this
theorem finv_mul {a : Int} (h : a % 1073741789 ≠ 0) : a * finv a % 1073741789 = 1 := by
  unfold finv; rw [mul_emod_r, Int.mul_comm, ← Int.pow_succ]; exact fermat h _ eInv_succ
end Go.Proofs.Ytdbamhckgaoibaa.Sig
namespace Go.Proofs.Ytdbamhckgaoibaa.Sig
def ent (t : List (List Int)) (i c : Nat) : Int := (t.getD i []).getD c 0
def find (t : List (List Int)) (c k : Nat) : Nat := k + ((t.drop k).takeWhile fun row => row.getD c 0 == 0).length
theorem ent_getElem {t : List (List Int)} {k c : Nat} (hk : k < t.length) : ent t k c = t[k].getD c 0 := by
  unfold ent
  have : t.getD k [] = t[k] := by rw [List.getD_eq_getElem?_getD, List.getElem?_eq_getElem hk]; rfl
  rw [this]
theorem find_step {t : List (List Int)} {c k : Nat} (hk : k < t.length) (h : ent t k c = 0) : find t c k = find t c (k + 1) := by
  unfold find; rw [List.drop_eq_getElem_cons hk, List.takeWhile_cons]
  have : (t[k].getD c 0 == 0) = true := by
    rw [ent_getElem hk] at h
    simpa using h
  rw [if_pos this]; simp only [List.length_cons]; omega
theorem find_stop {t : List (List Int)} {c k : Nat} (h : k < t.length → ent t k c ≠ 0) : find t c k = k := by
  unfold find
  rcases Nat.lt_or_ge k t.length with hk | hk
  · rw [List.drop_eq_getElem_cons hk, List.takeWhile_cons]
    have h' := h hk; rw [ent_getElem hk] at h'; rw [if_neg (by simpa using h')]; rfl
  · rw [List.drop_of_length_le hk]; rfl
theorem find_spec (t : List (List Int)) (c : Nat) : ∀ (d k : Nat), t.length - k = d → k ≤ t.length → k ≤ find t c k ∧ find t c k ≤ t.length ∧ (find t c k < t.length → ent t (find t c k) c ≠ 0) ∧ ∀ i, k ≤ i → i < find t c k → ent t i c = 0 := by
  intro d
  induction d with
  | zero =>
    intro k hd hk; have e : find t c k = k := find_stop (fun h => by omega); rw [e]; exact ⟨Nat.le_refl _, hk, fun h => by omega, fun i h1 h2 => by omega⟩
  | succ d ih =>
    intro k hd hk
    by_cases h : ent t k c = 0
    · have e := find_step (show k < t.length by omega) h
      obtain ⟨h1, h2, h3, h4⟩ := ih (k + 1) (by omega) (by omega); rw [e]; refine ⟨by omega, h2, h3, fun i hi hj => ?_⟩
      rcases Nat.eq_or_lt_of_le hi with h5 | h5
      · rw [← h5]; exact h
      · exact h4 i h5 hj
    · have e : find t c k = k := find_stop (fun _ => h)
      rw [e]; exact ⟨Nat.le_refl _, hk, fun _ => h, fun i h1 h2 => by omega⟩
def pivot (t : List (List Int)) (r k c : Nat) : List (List Int) :=
  let own := times (t.getD k []) (finv (ent t k c))
  (((t.set k (t.getD r [])).map fun row => less row own (row.getD c 0))).set r own
def step (st : List (List Int) × List Nat) (c : Nat) : List (List Int) × List Nat :=
  if find st.1 c st.2.length < st.1.length then (pivot st.1 st.2.length (find st.1 c st.2.length) c, st.2 ++ [c]) else st
def reduce (t : List (List Int)) (many : Nat) : List (List Int) × List Nat := (List.range many).foldl step (t, [])
theorem reduce_zero (t : List (List Int)) : reduce t 0 = (t, []) := rfl
theorem reduce_succ (t : List (List Int)) (c : Nat) : reduce t (c + 1) = step (reduce t c) c := by
  unfold reduce; rw [List.range_succ, List.foldl_append]; rfl
def InF (x : Int) : Prop := 0 ≤ x ∧ x < 1073741789
def Rect (t : List (List Int)) (n : Nat) : Prop := ∀ row ∈ t, row.length = n ∧ ∀ x ∈ row, InF x
theorem getD_mem {t : List (List Int)} {i : Nat} (h : i < t.length) : t.getD i [] ∈ t := by
  rw [List.getD_eq_getElem?_getD, List.getElem?_eq_getElem h]; exact List.getElem_mem h
theorem less_length {a b : List Int} {n : Int} (h : a.length = b.length) : (less a b n).length = a.length := by
  simp [less, h]
theorem times_length (a : List Int) (n : Int) : (times a n).length = a.length := by simp [times]
theorem less_inF (a b : List Int) (n : Int) : ∀ x ∈ less a b n, InF x := by
  intro x hx; unfold less at hx; rw [List.mem_iff_getElem] at hx; obtain ⟨i, hi, rfl⟩ := hx; rw [List.getElem_zipWith]; exact emod_range _
theorem times_inF (a : List Int) (n : Int) : ∀ x ∈ times a n, InF x := by
  intro x hx; unfold times at hx; obtain ⟨y, _, rfl⟩ := List.mem_map.1 hx; exact emod_range _
theorem less_getD {a b : List Int} {n : Int} (h : a.length = b.length) {c : Nat} (hc : c < a.length) : (less a b n).getD c 0 = (a.getD c 0 - n * b.getD c 0) % 1073741789 := by
  have hb : c < b.length := by omega
  unfold less; rw [List.getD_eq_getElem?_getD, List.getElem?_eq_getElem (by simp; omega), List.getElem_zipWith, List.getD_eq_getElem?_getD, List.getElem?_eq_getElem hc, List.getD_eq_getElem?_getD, List.getElem?_eq_getElem hb]; rfl
theorem times_getD (a : List Int) (n : Int) (c : Nat) : (times a n).getD c 0 = a.getD c 0 * n % 1073741789 := by
  unfold times; rw [List.getD_eq_getElem?_getD, List.getElem?_map, List.getD_eq_getElem?_getD]
  cases a[c]? with
  | none => simp
  | some x => rfl
theorem getD_inF {row : List Int} (h : ∀ x ∈ row, InF x) (c : Nat) : InF (row.getD c 0) := by
  rw [List.getD_eq_getElem?_getD]
  cases e : row[c]? with
  | none => simp [InF]
  | some x => exact h x (List.mem_of_getElem? e)
theorem getD_set {t : List (List Int)} {k i : Nat} {row : List Int} : (t.set k row).getD i [] = if k = i ∧ k < t.length then row else t.getD i [] := by
  rw [List.getD_eq_getElem?_getD, List.getElem?_set, List.getD_eq_getElem?_getD]
  by_cases h : k = i
  · subst h
    by_cases h2 : k < t.length
    · rw [if_pos rfl, if_pos h2, if_pos ⟨rfl, h2⟩]; rfl
    · rw [if_pos rfl, if_neg h2, if_neg (fun h => h2 h.2), List.getElem?_eq_none (by omega)]
  · rw [if_neg h, if_neg (fun h' => h h'.1)]
theorem getD_map {t : List (List Int)} {i : Nat} {f : List Int → List Int} (hi : i < t.length) : (t.map f).getD i [] = f (t.getD i []) := by
  rw [List.getD_eq_getElem?_getD, List.getElem?_map, List.getD_eq_getElem?_getD, List.getElem?_eq_getElem hi]; rfl
theorem pivot_length (t : List (List Int)) (r k c : Nat) : (pivot t r k c).length = t.length := by simp [pivot]
def swapped (t : List (List Int)) (r k i : Nat) : List Int := if k = i then t.getD r [] else t.getD i []
theorem pivot_getD {t : List (List Int)} {r k c i : Nat} (hk : k < t.length) (hi : i < t.length) :
    (pivot t r k c).getD i [] = if i = r then times (t.getD k []) (finv (ent t k c)) else less (swapped t r k i) (times (t.getD k []) (finv (ent t k c))) ((swapped t r k i).getD c 0) := by
  unfold pivot; simp only
  have e : (if k = i ∧ k < t.length then t.getD r [] else t.getD i []) = swapped t r k i := by
    unfold swapped
    by_cases h2 : k = i
    · rw [if_pos ⟨h2, hk⟩, if_pos h2]
    · rw [if_neg (fun h' => h2 h'.1), if_neg h2]
  rw [getD_set, List.length_map, List.length_set, getD_map (by simpa using hi), getD_set, e]
  by_cases h : r = i
  · subst h
    rw [if_pos ⟨rfl, hi⟩, if_pos rfl]
  · rw [if_neg (fun h' => h h'.1), if_neg (fun h' => h h'.symm)]
theorem swapped_mem {t : List (List Int)} {r k i : Nat} (hr : r < t.length) (hi : i < t.length) : swapped t r k i ∈ t := by
  unfold swapped
  split
  · exact getD_mem hr
  · exact getD_mem hi
theorem pivot_rect {t : List (List Int)} {n r k c : Nat} (h : Rect t n) (hr : r < t.length) (hk : k < t.length) : Rect (pivot t r k c) n := by
  intro row hrow; obtain ⟨i, hi, rfl⟩ := List.mem_iff_getElem.1 hrow; rw [pivot_length] at hi; have e := pivot_getD (c := c) (r := r) hk hi; rw [List.getD_eq_getElem?_getD, List.getElem?_eq_getElem (by rw [pivot_length]; exact hi)] at e; have e : (pivot t r k c)[i]'(by rw [pivot_length]; exact hi) = _ := e; rw [e]; have h1 := h _ (getD_mem hk); have h2 := h _ (swapped_mem (k := k) hr hi)
  split
  · exact ⟨by rw [times_length]; exact h1.1, times_inF _ _⟩
  · exact ⟨by rw [less_length (by rw [times_length]; omega)]; exact h2.1, less_inF _ _ _⟩
structure Inv (t : List (List Int)) (ps : List Nat) (n c : Nat) : Prop where
  rect : Rect t n
  few : ps.length ≤ t.length
  low : ∀ p ∈ ps, p < c
  one : ∀ i j, i < t.length → j < ps.length → ent t i (ps.getD j 0) = if i = j then 1 else 0
  zero : ∀ i d, ps.length ≤ i → i < t.length → d < c → ent t i d = 0
  inc : ∀ i j, i < j → j < ps.length → ps.getD i 0 < ps.getD j 0
theorem ent_swapped {t : List (List Int)} {r k i d : Nat} : (swapped t r k i).getD d 0 = if k = i then ent t r d else ent t i d := by
  unfold swapped ent
  split <;> rfl
theorem ent_pivot {t : List (List Int)} {n r k c i d : Nat} (h : Rect t n) (hr : r < t.length) (hk : k < t.length) (hi : i < t.length) (hd : d < n) :
    ent (pivot t r k c) i d = if i = r then ent t k d * finv (ent t k c) % 1073741789 else
      ((if k = i then ent t r d else ent t i d) - (if k = i then ent t r c else ent t i c) * (ent t k d * finv (ent t k c) % 1073741789)) % 1073741789 := by
  have h1 := h _ (getD_mem hk); have h2 := h _ (swapped_mem (k := k) hr hi); unfold ent; rw [pivot_getD hk hi]
  split
  · rw [times_getD]; rfl
  · rw [less_getD (by rw [times_length]; omega) (by omega), times_getD, ent_swapped, ent_swapped]
    rfl
theorem getD_snoc (ps : List Nat) (c j : Nat) : (ps ++ [c]).getD j 0 = if j = ps.length then c else ps.getD j 0 := by
  rw [List.getD_eq_getElem?_getD, List.getD_eq_getElem?_getD]
  rcases Nat.lt_trichotomy j ps.length with h | h | h
  · rw [List.getElem?_append_left h, if_neg (by omega)]
  · subst h; simp
  · rw [if_neg (by omega), List.getElem?_eq_none (by simp; omega), List.getElem?_eq_none (by omega)]
theorem getD_low {ps : List Nat} {c j : Nat} (h : ∀ p ∈ ps, p < c) (hj : j < ps.length) : ps.getD j 0 < c := by
  rw [List.getD_eq_getElem?_getD, List.getElem?_eq_getElem hj]; exact h _ (List.getElem_mem hj)
theorem inv_step {t : List (List Int)} {ps : List Nat} {n c : Nat} (h : Inv t ps n c) (hc : c < n) : Inv (step (t, ps) c).1 (step (t, ps) c).2 n (c + 1) := by
  obtain ⟨f1, f2, f3, f4⟩ := find_spec t c _ ps.length rfl h.few; unfold step; simp only
  by_cases hf : find t c ps.length < t.length
  · rw [if_pos hf]
    generalize find t c ps.length = k at *
    have hr : ps.length < t.length := by omega
    have hx := f3 hf; have hX : InF (ent t k c) := getD_inF (h.rect _ (getD_mem hf)).2 c; have hinv := finv_mul (a := ent t k c) (by unfold InF at hX; omega); refine ⟨pivot_rect h.rect hr hf, by rw [pivot_length]; simp; omega, ?_, ?_, ?_, ?_⟩
    · intro p hp
      rcases List.mem_append.1 hp with hp | hp
      · have := h.low p hp; omega
      · simp at hp; omega
    · intro i j hi hj
      simp only [pivot_length] at hi; simp only [List.length_append, List.length_cons, List.length_nil] at hj; simp only [getD_snoc]
      by_cases hjl : j = ps.length
      · subst hjl
        rw [if_pos rfl, ent_pivot h.rect hr hf hi hc]
        split
        · exact hinv
        · rw [hinv, Int.mul_one, Int.sub_self]; rfl
      · rw [if_neg hjl]
        have hp := getD_low h.low (show j < ps.length by omega); rw [ent_pivot h.rect hr hf hi (by omega), h.zero k _ f1 hf hp, Int.zero_mul, h.zero ps.length _ (Nat.le_refl _) hr hp, h.one i j hi (by omega)]
        split
        · subst i; rw [if_neg (by omega)]; rfl
        · split
          · subst k
            rw [if_neg (by omega)]
            simp
          · split <;> simp
    · intro i d h1 hi hd
      simp only [pivot_length] at hi; simp only [List.length_append, List.length_cons, List.length_nil] at h1; rw [ent_pivot h.rect hr hf hi (by omega), if_neg (by omega)]
      rcases Nat.lt_or_ge d c with h2 | h2
      · rw [h.zero k d f1 hf h2, Int.zero_mul, h.zero ps.length d (Nat.le_refl _) hr h2, h.zero i d (by omega) hi h2]
        simp
      · have : d = c := by omega
        subst this
        rw [hinv, Int.mul_one, Int.sub_self]; rfl
    · intro i j hij hj
      simp only [List.length_append, List.length_cons, List.length_nil] at hj; rw [getD_snoc, getD_snoc, if_neg (by omega)]
      split
      · exact getD_low h.low (by omega)
      · exact h.inc i j hij (by omega)
  · rw [if_neg hf]
    refine ⟨h.rect, h.few, fun p hp => by have := h.low p hp; omega, h.one, ?_, h.inc⟩; intro i d h1 hi hd; simp only at h1 hi
    rcases Nat.lt_or_ge d c with h2 | h2
    · exact h.zero i d h1 hi h2
    · have : d = c := by omega
      subst this; exact f4 i h1 (by omega)
theorem inv_reduce {t : List (List Int)} {n : Nat} (h : Rect t n) : ∀ c, c ≤ n → Inv (reduce t c).1 (reduce t c).2 n c ∧ (reduce t c).1.length = t.length
  | 0, _ => ⟨⟨h, by simp [reduce_zero], by simp [reduce_zero], by intro i j _ hj; simp [reduce_zero] at hj, by intro i d _ _ hd; omega, by intro i j _ hj; simp [reduce_zero] at hj⟩, by simp [reduce_zero]⟩
  | c + 1, hc => by
    have ih := inv_reduce h c (by omega); rw [reduce_succ]; refine ⟨inv_step ih.1 (by omega), ?_⟩; unfold step
    split
    · simp only [pivot_length]; exact ih.2
    · exact ih.2
end Go.Proofs.Ytdbamhckgaoibaa.Sig
namespace Go.Proofs.Ytdbamhckgaoibaa.Sig
def lay (ps : List Nat) (f : Nat → Int) (v : List Int) : Nat → List Int
  | 0 => v
  | m + 1 => (lay ps f v m).set (ps.getD m 0) (f m)
theorem lay_length (ps : List Nat) (f : Nat → Int) (v : List Int) (m : Nat) : (lay ps f v m).length = v.length := by
  induction m with
  | zero => rfl
  | succ m ih => simp [lay, ih]
def Places (ps : List Nat) (n : Nat) : Prop := (∀ i j, i < j → j < ps.length → ps.getD i 0 < ps.getD j 0) ∧ ∀ j, j < ps.length → ps.getD j 0 < n
theorem getD_set_int {v : List Int} {p q : Nat} {x : Int} : (v.set p x).getD q 0 = if p = q ∧ p < v.length then x else v.getD q 0 := by
  rw [List.getD_eq_getElem?_getD, List.getElem?_set, List.getD_eq_getElem?_getD]
  by_cases h : p = q
  · subst h
    by_cases h2 : p < v.length
    · rw [if_pos rfl, if_pos h2, if_pos ⟨rfl, h2⟩]; rfl
    · rw [if_pos rfl, if_neg h2, if_neg (fun h => h2 h.2), List.getElem?_eq_none (by omega)]
  · rw [if_neg h, if_neg (fun h' => h h'.1)]
theorem inv_places {t : List (List Int)} {ps : List Nat} {n c : Nat} (h : Inv t ps n c) : Places ps c :=
  ⟨h.inc, fun _ hj => getD_low h.low hj⟩
def turned (rows : List (List Int)) (target : List Int) : List (List Int) := (List.range target.length).map fun k => rows.map (fun r => r.getD k 0) ++ [target.getD k 0]
def combY (m : List (List Int)) (ps : List Nat) (n : Nat) : List Int := lay ps (fun k => ent m k n) (List.replicate n 0) ps.length
def fits (m : List (List Int)) (r n : Nat) : Bool := (m.drop r).all fun row => row.getD n 0 == 0
def combine (rows : List (List Int)) (target : List Int) : Option (List Int) :=
  if fits (reduce (turned rows target) rows.length).1 (reduce (turned rows target) rows.length).2.length rows.length then
    some (combY (reduce (turned rows target) rows.length).1 (reduce (turned rows target) rows.length).2 rows.length) else none
theorem fits_spec {m : List (List Int)} {r n : Nat} : fits m r n = true ↔ ∀ i, r ≤ i → i < m.length → ent m i n = 0 := by
  unfold fits; rw [List.all_eq_true]; constructor
  · intro h i h1 h2
    have := h (m[i]) (by
      rw [List.mem_iff_getElem]
      exact ⟨i - r, by simp; omega, by rw [List.getElem_drop]; congr 1; omega⟩)
    rw [ent_getElem h2]
    simpa using this
  · intro h row hrow
    obtain ⟨i, hi, rfl⟩ := List.mem_iff_getElem.1 hrow
    simp at hi
    have := h (r + i) (by omega) (by omega); rw [ent_getElem (by omega)] at this; rw [List.getElem_drop]
    simpa using this
def RectT (rows : List (List Int)) (target : List Int) : Prop := Rect rows target.length ∧ ∀ x ∈ target, InF x
theorem turned_rect {rows : List (List Int)} {target : List Int} (h : RectT rows target) : Rect (turned rows target) (rows.length + 1) := by
  intro row hrow; obtain ⟨k, hk, rfl⟩ := List.mem_map.1 hrow; refine ⟨by simp, fun x hx => ?_⟩
  rcases List.mem_append.1 hx with hx | hx
  · obtain ⟨r, hr, rfl⟩ := List.mem_map.1 hx
    exact getD_inF (h.1 r hr).2 k
  · simp at hx
    rw [hx, ← List.getD_eq_getElem?_getD]; exact getD_inF h.2 k
theorem turned_length (rows : List (List Int)) (target : List Int) : (turned rows target).length = target.length := by simp [turned]
theorem getD_map_range {α : Type} (n k : Nat) (f : Nat → α) (d : α) (h : k < n) : ((List.range n).map f).getD k d = f k := by
  rw [List.getD_eq_getElem?_getD, List.getElem?_map, List.getElem?_range h]; rfl
theorem combY_length (m : List (List Int)) (ps : List Nat) (n : Nat) : (combY m ps n).length = n := by simp [combY, lay_length]
theorem ent_inF {t : List (List Int)} {n : Nat} (h : Rect t n) (i d : Nat) : InF (ent t i d) := by
  unfold ent
  rcases Nat.lt_or_ge i t.length with hi | hi
  · exact getD_inF (h _ (getD_mem hi)).2 d
  · rw [List.getD_eq_getElem?_getD (l := t), List.getElem?_eq_none hi]
    simp [InF]
theorem combine_length {rows : List (List Int)} {target y : List Int} (h : combine rows target = some y) : y.length = rows.length := by
  unfold combine at h
  split at h
  · cases h; exact combY_length _ _ _
  · exact absurd h (by simp)
end Go.Proofs.Ytdbamhckgaoibaa.Sig
namespace Go.Proofs.Ytdbamhckgaoibaa.P
open Go.RowKit Go.Proofs.YtdbamhckgaoibaaW.PrintWords Go.Proofs.YtdbamhckgaoibaaW.PrintLast Go.Proofs.YtdbamhckgaoibaaW.PrintMore
set_option linter.unusedVariables false
set_option linter.unusedSimpArgs false
theorem mul_range {x y : Int} (hx : 0 ≤ x ∧ x < 1073741789) (hy : 0 ≤ y ∧ y < 1073741789) : 0 ≤ x * y ∧ x * y ≤ 1152921433774400000 := by
  have h1 : x * y ≤ 1073741788 * 1073741788 := Int.mul_le_mul (by omega) (by omega) hy.1 (by omega); have h2 := Int.mul_nonneg hx.1 hy.1; exact ⟨h2, by omega⟩
theorem wrap_small {x : Int} (h : 0 ≤ x) (h2 : x ≤ 9223372036854775807) : wrap64 x = x := by unfold wrap64; omega
theorem tmod_small {x m : Int} (h : 0 ≤ x) : Int.tmod x m = x % m := Int.tmod_eq_emod_of_nonneg h
theorem mul_math (a b : Int) : field_Mul.f a b = some (a * b % 1073741789) := by
  unfold field_Mul.f field_Mod_m.f; simp only [Option.bind_some]; have h := mul_range (x := a % 1073741789) (y := b % 1073741789) (by omega) (by omega); rw [wrap_small h.1 (by omega), tmod_small h.1, ← Int.mul_emod]
theorem mul_c (a b : Int) (w : World) : Calls Try.prog 65 #[.int .i64 a, .int .i64 b] w fun e w' => e = .returned (.int .i64 (a * b % 1073741789)) ∧ Drawn0 w w' :=
  field_Mul.calls a b _ w (mul_math a b)
theorem mod_c (a : Int) (w : World) : Calls Try.prog 122 #[.int .i64 a] w fun e w' => e = .returned (.int .i64 (a % 1073741789)) ∧ Drawn0 w w' :=
  field_Mod_m.calls a _ w rfl
theorem add_math (a b : Int) : field_Add.f 4 a b = some ((a + b) % 1073741789) := by
  unfold field_Add.f field_sum.f; have hl : (([a, b] : List Int).length : Int) = 2 := rfl; have e0 : rd [a, b] 0 = a := rfl; have e1 : rd [a, b] 1 = b := rfl; have w1 : wrap64 (0 + 1) = 1 := wrap_small (by decide) (by decide); have w2 : wrap64 (1 + 1) = 2 := wrap_small (by decide) (by decide)
  have x1 : wrap64 (0 + a % 1073741789) = a % 1073741789 := by rw [Int.zero_add]; exact wrap_small (by omega) (by omega)
  have t1 : Int.tmod (a % 1073741789) 1073741789 = a % 1073741789 := by rw [tmod_small (by omega)]; omega
  have x2 : wrap64 (a % 1073741789 + b % 1073741789) = a % 1073741789 + b % 1073741789 := wrap_small (by omega) (by omega)
  have t2 : Int.tmod (a % 1073741789 + b % 1073741789) 1073741789 = (a + b) % 1073741789 := by rw [tmod_small (by omega)]; omega
  simp only [field_sum.l0, field_Mod_m.f, Option.bind_some, hl, e0, e1, w1, w2, x1, t1, x2, t2]
  simp
def field_Add_m.f (a b : Int) : Option Int := some ((a + b) % 1073741789)
theorem field_Add_m.calls (a0 : Int) (a1 : Int) (r : Int) (w : World) (h : field_Add_m.f a0 a1 = some r) :
    Calls Try.prog 36 #[.int .i64 a0, .int .i64 a1] w fun e w' => e = .returned (.int .i64 r) ∧ Below w.heap.size w w' :=
  field_Add.calls 4 a0 a1 r w ((add_math a0 a1).trans h)
theorem pow_half (x s : Int) (l : Nat) (h : l % 2 = 0) : x * s ^ l % 1073741789 = x * (s * s % 1073741789) ^ (l / 2) % 1073741789 := by
  rw [← Sig.mul_emod_r x ((s * s % 1073741789) ^ (l / 2)), Sig.pow_emod, Sig.mul_emod_r]
  congr 2
  have e : s * s = s ^ 2 := by rw [Int.pow_succ, Int.pow_succ, Int.pow_zero, Int.one_mul]
  rw [e, ← Int.pow_mul]
  congr 1
  omega
theorem pow_half_odd (x s : Int) (l : Nat) (h : l % 2 = 1) : x * s ^ l % 1073741789 = (x * s % 1073741789) * (s * s % 1073741789) ^ (l / 2) % 1073741789 := by
  rw [Sig.mul_emod_l, ← Sig.mul_emod_r (x * s) ((s * s % 1073741789) ^ (l / 2)), Sig.pow_emod, Sig.mul_emod_r, Int.mul_assoc]
  congr 2
  have e : s * s = s ^ 2 := by rw [Int.pow_succ, Int.pow_succ, Int.pow_zero, Int.one_mul]
  rw [e, ← Int.pow_mul, Int.mul_comm s, ← Int.pow_succ]
  congr 1
  omega
def InvEq (a x s : Int) (l : Nat) : Prop := x * s ^ l % 1073741789 = a ^ Sig.eInv % 1073741789 ∧ 0 ≤ x ∧ x < 1073741789
theorem inv_end {a x s : Int} (h : InvEq a x s 0) : x = Sig.finv a := by
  have := h.1; rw [Int.pow_zero, Int.mul_one, Int.emod_eq_of_lt h.2.1 h.2.2] at this; exact this
set_option maxHeartbeats 1000000 in
theorem inverse_c (a : Int) (w : World) (h : a % 1073741789 ≠ 0) : Calls Try.prog 123 #[.int .i64 a] w fun e w' => e = .returned (.tuple #[.int .i64 (Sig.finv a), .int .i64 0]) ∧ Drawn0 w w' := by
  have hb : (a % 1073741789 == 0) = false := beq_eq_false_iff_ne.2 h; have H0 := Aside0.mk (show InvEq a 1 a Sig.eInv from ⟨by rw [Int.one_mul], by omega, by omega⟩); clear h
  go_enter Try.func123, Try.ntmps123
  go_wp2
  go_step3
  go_wp2_with (go_at_call 122; refine (mod_c _ _).mono ?_; rintro e w' ⟨rfl, ⟨nd, rfl⟩⟩)
  go_step3
  go_wp2; clear hb
  go_loopg [2, 4, 5] Sig.eInv (fun gk v2 v4 v5 w' => ∃ x s : Int, gk ≤ 1073741787 ∧ v2 = .int .i64 x ∧ v4 = .int .i64 (gk : Int) ∧ v5 = .int .i64 s ∧ Aside0 (InvEq a x s gk) ∧ Drawn0 w w')
  case atStart => exact ⟨1, a, Nat.le_refl _, rfl, rfl, rfl, H0, dr_⟩
  case round =>
    clear H0; obtain ⟨x, s, hle, rfl, rfl, rfl, HI, ⟨m, rfl⟩⟩ := hrel
    rcases Nat.eq_zero_or_pos gk with h0 | h0
    · subst h0
      have hz : (((0 : Nat) : Int) == 0) = true := rfl; go_wp2; rw [Exit.noGoto_ret]
      go_ret2
      exact ⟨by rw [inv_end HI.out]; rfl, dr_⟩
    · have hn : ((gk : Int) == 0) = false := beq_eq_false_iff_ne.2 (by omega)
      have hg : 0 ≤ (gk : Int) := by omega
      have hg2 : (gk : Int) ≤ 1073741787 := by omega
      rcases Nat.mod_two_eq_zero_or_one gk with ho | ho
      · have hm : ((gk : Int) % 2 == 1) = false := beq_eq_false_iff_ne.2 (by omega)
        have HN := Aside0.mk (show InvEq a x (s * s % 1073741789) (gk / 2) from ⟨(pow_half x s gk ho).symm.trans HI.out.1, HI.out.2⟩); clear ho; go_wp2_with (go_at_call 65; refine (mul_c _ _ _).mono ?_; rintro e w' ⟨rfl, ⟨nd, rfl⟩⟩)
        go_roundg (gk / 2)
        case measure => omega
        case rel => exact ⟨x, _, by omega, rfl, by first | rfl | (simp; done), rfl, HN, dr_⟩
      · have hm : ((gk : Int) % 2 == 1) = true := beq_iff_eq.2 (by omega)
        have HN := Aside0.mk (show InvEq a (x * s % 1073741789) (s * s % 1073741789) (gk / 2) from ⟨(pow_half_odd x s gk ho).symm.trans HI.out.1, by omega, by omega⟩); clear ho; go_wp2_with (go_at_call 65; refine (mul_c _ _ _).mono ?_; rintro e w' ⟨rfl, ⟨nd, rfl⟩⟩)
        go_roundg (gk / 2)
        case measure => omega
        case rel => exact ⟨_, _, by omega, rfl, by first | rfl | (simp; done), rfl, HN, dr_⟩
set_option maxHeartbeats 1000000 in
theorem inverse_none (a : Int) (w : World) (h : a % 1073741789 = 0) : Calls Try.prog 123 #[.int .i64 a] w fun e w' => e = .returned (.tuple #[.int .i64 0, .int .i64 90]) ∧ Drawn0 w w' := by
  have hb : (a % 1073741789 == 0) = true := beq_iff_eq.2 h; clear h
  go_enter Try.func123, Try.ntmps123
  go_wp2
  go_step3
  go_wp2_with (go_at_call 122; refine (mod_c _ _).mono ?_; rintro e w' ⟨rfl, ⟨nd, rfl⟩⟩); rw [Exit.noGoto_ret]
  go_ret2
  exact ⟨rfl, dr_⟩
def field_Inverse.f (a : Int) : Option (Int × Int) := if a % 1073741789 = 0 then some (0, 90) else some (Sig.finv a, 0)
theorem field_Inverse.calls (a0 : Int) (r1 : Int) (r2 : Int) (w : World) (h : field_Inverse.f a0 = some (r1, r2)) :
    Calls Try.prog 123 #[.int .i64 a0] w fun e w' => e = .returned (.tuple #[.int .i64 r1, .int .i64 r2]) ∧ Drawn0 w w' := by
  unfold field_Inverse.f at h
  split at h
  · cases h; exact inverse_none a0 w (by assumption)
  · cases h; exact inverse_c a0 w (by assumption)
end Go.Proofs.Ytdbamhckgaoibaa.P
namespace Go.Proofs.Ytdbamhckgaoibaa.P
open Go.RowKit Go.Proofs.YtdbamhckgaoibaaW.PrintWords Go.Proofs.YtdbamhckgaoibaaW.PrintLast Go.Proofs.YtdbamhckgaoibaaW.PrintMore
set_option linter.unusedVariables false
set_option linter.unusedSimpArgs false
def Jac (M : Nat) (x n : Nat) (sq : Bool) : Prop := n % 2 = 1 ∧ Nat.Coprime x n ∧ 1 ≤ x ∧ x ≤ 2147483579 ∧ n ≤ 2147483579 ∧ (sq = true ↔ Sig.mu x n % 2 = M) ∧ M < 2
theorem jac_half {M x n : Nat} {sq : Bool} (h : Jac M x n sq) (hx : x % 2 = 0) : Jac M (x / 2) n (if n % 8 = 3 ∨ n % 8 = 5 then !sq else sq) := by
  obtain ⟨h1, h2, h3, h4, h5, h6, h7⟩ := h; have e := Sig.mu_even h1 hx h2; refine ⟨h1, Nat.Coprime.coprime_dvd_left ⟨2, by omega⟩ h2, by omega, by omega, h5, ?_, h7⟩
  split
  · rename_i c
    rw [if_pos c] at e
    have : (!sq) = true ↔ ¬ (sq = true) := by cases sq <;> simp
    rw [this, h6]; omega
  · rename_i c
    rw [if_neg c] at e; rw [h6]; omega
theorem jac_flip {M x n : Nat} {sq : Bool} (h : Jac M x n sq) (hx : x % 2 = 1) (hx1 : 1 < x) : Jac M (n % x) x (if x % 4 = 3 ∧ n % 4 = 3 then !sq else sq) ∧ n % x < x := by
  obtain ⟨h1, h2, h3, h4, h5, h6, h7⟩ := h; have e := Sig.mu_flip h1 hx h2; have hlt := Nat.mod_lt n (show x > 0 by omega)
  have hc : Nat.Coprime (n % x) x := by
    unfold Nat.Coprime at h2 ⊢; rw [← Nat.gcd_rec]; exact h2
  have hpos : 1 ≤ n % x := by
    rcases Nat.eq_zero_or_pos (n % x) with h0 | h0
    · rw [h0] at hc
      unfold Nat.Coprime at hc; rw [Nat.gcd_zero_left] at hc; omega
    · exact h0
  refine ⟨⟨hx, hc, hpos, by omega, h4, ?_, h7⟩, hlt⟩
  split
  · rename_i c
    rw [if_pos c] at e
    have : (!sq) = true ↔ ¬ (sq = true) := by cases sq <;> simp
    rw [this, h6]; omega
  · rename_i c
    rw [if_neg c] at e; rw [h6]; omega
theorem jac_end {M n : Nat} {sq : Bool} (h : Jac M 1 n sq) : sq = decide (M = 0) := by
  obtain ⟨h1, h2, h3, h4, h5, h6, h7⟩ := h; rw [Sig.mu_one] at h6
  cases sq <;> simp at h6 ⊢ <;> omega
def isEl (x : Int) : Bool := decide (1 ≤ x ∧ x < 2147483579 ∧ Sig.mu x.toNat 2147483579 % 2 = 0)
theorem jac_start {x : Nat} (h1 : 1 ≤ x) (h2 : x < 2147483579) : Jac (Sig.mu x 2147483579 % 2) x 2147483579 true :=
  ⟨by decide, Sig.prime_P.coprime fun hd => by have := Nat.le_of_dvd (by omega) hd; omega, h1, by omega, Nat.le_refl _, by simp, Nat.mod_lt _ (by decide)⟩
theorem ret_bool {a b : Bool} (h : a = b) : Ending.returned (.bool a) = .returned (.bool b) := by rw [h]
set_option maxHeartbeats 2000000 in
theorem valid_in (x0 : Nat) (w : World) (h1 : 1 ≤ x0) (h2 : x0 < 2147483579) : Calls Try.prog 104 #[.int .i64 (x0 : Int)] w fun e w' => e = .returned (.bool (decide (Sig.mu x0 2147483579 % 2 = 0))) ∧ Drawn0 w w' := by
  have H0 := Aside0.mk (jac_start h1 h2); generalize Sig.mu x0 2147483579 % 2 = M at H0 ⊢; have b1 : decide ((x0 : Int) < 1) = false := decide_eq_false (by omega); have b2 : decide ((2147483579 : Int) ≤ (x0 : Int)) = false := decide_eq_false (by omega)
  go_enter Try.func104, Try.ntmps104
  go_wp2
  go_step3
  go_wp2
  go_step3
  go_wp2; clear b1 b2
  go_loopg [0, 3, 4] x0 (fun gk v0 v3 v4 w' => ∃ (x n : Nat) (sq : Bool), x ≤ gk ∧ v0 = .int .i64 (x : Int) ∧ v3 = .int .i64 (n : Int) ∧ v4 = .bool sq ∧ Aside0 (Jac M x n sq) ∧ Drawn0 w w')
  case atStart => exact ⟨x0, 2147483579, true, Nat.le_refl _, rfl, rfl, rfl, H0, dr_⟩
  case round =>
    clear H0 h1 h2; obtain ⟨x, n, sq, hle, rfl, rfl, rfl, HJ, ⟨m, rfl⟩⟩ := hrel; have hx1 : 1 ≤ x := HJ.out.2.2.1; have hx2 : x ≤ 2147483579 := HJ.out.2.2.2.1; have hn2 : n ≤ 2147483579 := HJ.out.2.2.2.2.1
    by_cases c1 : x = 1
    · subst c1
      have b1 : decide ((1 : Int) < ((1 : Nat) : Int)) = false := rfl; have he := jac_end HJ.out; go_wp2; rw [Exit.noGoto_ret]
      go_ret
      exact ⟨ret_bool he, dr_⟩
    · have b1 : decide ((1 : Int) < (x : Int)) = true := decide_eq_true (by omega)
      have hgk : gk ≠ 0 := by omega
      go_wp2; clear b1
      go_loopg [0, 4] x (fun gj v0 v4 w' => ∃ (y : Nat) (sr : Bool), y ≤ gj ∧ y ≤ x ∧ v0 = .int .i64 (y : Int) ∧ v4 = .bool sr ∧ Aside0 (Jac M y n sr) ∧ Drawn0 w w')
      case atStart => exact ⟨x, sq, Nat.le_refl _, Nat.le_refl _, rfl, rfl, HJ, dr_⟩
      case round =>
        clear HJ; obtain ⟨y, sr, hly, hyx, rfl, rfl, HK, ⟨m2, rfl⟩⟩ := hrel; have hy1 : 1 ≤ y := HK.out.2.2.1
        rcases Nat.mod_two_eq_zero_or_one y with ho | ho
        · have b1 : ((y : Int) % 2 == 0) = true := beq_iff_eq.2 (by omega)
          have HL := Aside0.mk (jac_half HK.out ho); clear ho
          by_cases d1 : n % 8 = 3
          · have e1 : ((n : Int) % 8 == 3) = true := beq_iff_eq.2 (by omega)
            rw [if_pos (.inl d1)] at HL; clear d1; go_wp2
            go_roundg (y / 2)
            case measure => omega
            case rel => exact ⟨y / 2, !sr, Nat.le_refl _, by omega, by first | rfl | (simp; done), rfl, HL, dr_⟩
          · have e1 : ((n : Int) % 8 == 3) = false := beq_eq_false_iff_ne.2 (by omega)
            by_cases d2 : n % 8 = 5
            · have e2 : ((n : Int) % 8 == 5) = true := beq_iff_eq.2 (by omega)
              rw [if_pos (.inr d2)] at HL; clear d1 d2; go_wp2
              go_roundg (y / 2)
              case measure => omega
              case rel => exact ⟨y / 2, !sr, Nat.le_refl _, by omega, by first | rfl | (simp; done), rfl, HL, dr_⟩
            · have e2 : ((n : Int) % 8 == 5) = false := beq_eq_false_iff_ne.2 (by omega)
              rw [if_neg (by omega)] at HL; clear d1 d2; go_wp2
              go_roundg (y / 2)
              case measure => omega
              case rel => exact ⟨y / 2, sr, Nat.le_refl _, by omega, by first | rfl | (simp; done), rfl, HL, dr_⟩
        · have b1 : ((y : Int) % 2 == 0) = false := beq_eq_false_iff_ne.2 (by omega)
          by_cases c2 : y = 1
          · subst c2
            have he := jac_end HK.out; have b2 : (((1 : Nat) : Int) == 1) = true := rfl; go_wp2
            try rw [Exit.noGoto_ret]
            go_ret
            exact ⟨by first | rfl | exact ret_bool he, dr_⟩
          · have b2 : ((y : Int) == 1) = false := beq_eq_false_iff_ne.2 (by omega)
            have HL := Aside0.mk (jac_flip HK.out ho (by omega)); have hlt : n % y < y := HL.out.2; clear ho
            by_cases d1 : y % 4 = 3
            · have e1 : ((y : Int) % 4 == 3) = true := beq_iff_eq.2 (by omega)
              by_cases d2 : n % 4 = 3
              · have e2 : ((n : Int) % 4 == 3) = true := beq_iff_eq.2 (by omega)
                rw [if_pos ⟨d1, d2⟩] at HL; clear d1 d2; have HL1 := Aside0.mk HL.out.1; clear HL; go_wp2
                go_roundg (n % y)
                case measure => omega
                case rel => exact ⟨n % y, y, !sr, Nat.le_refl _, by first | rfl | (simp; done), rfl, rfl, HL1, dr_⟩
              · have e2 : ((n : Int) % 4 == 3) = false := beq_eq_false_iff_ne.2 (by omega)
                rw [if_neg (fun h => d2 h.2)] at HL; clear d1 d2; have HL1 := Aside0.mk HL.out.1; clear HL; go_wp2
                go_roundg (n % y)
                case measure => omega
                case rel => exact ⟨n % y, y, sr, Nat.le_refl _, by first | rfl | (simp; done), rfl, rfl, HL1, dr_⟩
            · have e1 : ((y : Int) % 4 == 3) = false := beq_eq_false_iff_ne.2 (by omega)
              rw [if_neg (fun h => d1 h.1)] at HL; clear d1; have HL1 := Aside0.mk HL.out.1; clear HL; go_wp2
              go_roundg (n % y)
              case measure => omega
              case rel => exact ⟨n % y, y, sr, Nat.le_refl _, by first | rfl | (simp; done), rfl, rfl, HL1, dr_⟩
theorem valid_low (x : Int) (w : World) (h : x < 1) : Calls Try.prog 104 #[.int .i64 x] w fun e w' => e = .returned (.bool false) ∧ Drawn0 w w' := by
  have b1 : decide (x < 1) = true := decide_eq_true h; clear h
  go_enter Try.func104, Try.ntmps104
  go_wp2
  go_step3
  go_wp2; rw [Exit.noGoto_ret]
  go_ret
  exact ⟨rfl, dr_⟩
theorem valid_high (x : Int) (w : World) (h : 2147483579 ≤ x) : Calls Try.prog 104 #[.int .i64 x] w fun e w' => e = .returned (.bool false) ∧ Drawn0 w w' := by
  have b1 : decide (x < 1) = false := decide_eq_false (by omega); have b2 : decide ((2147483579 : Int) ≤ x) = true := decide_eq_true h; clear h
  go_enter Try.func104, Try.ntmps104
  go_wp2
  go_step3
  go_wp2; rw [Exit.noGoto_ret]
  go_ret
  exact ⟨rfl, dr_⟩
def group_Valid.f (a0 : Int) : Option Bool := some (isEl a0)
theorem group_Valid.calls (a0 : Int) (r : Bool) (w : World) (h : group_Valid.f a0 = some r) :
    Calls Try.prog 104 #[.int .i64 a0] w fun e w' => e = .returned (.bool r) ∧ Drawn0 w w' := by
  obtain rfl : isEl a0 = r := Option.some.inj h
  by_cases h1 : a0 < 1
  · rw [show isEl a0 = false from decide_eq_false (fun h => by omega)]; exact valid_low a0 w h1
  · by_cases h2 : 2147483579 ≤ a0
    · rw [show isEl a0 = false from decide_eq_false (fun h => by omega)]; exact valid_high a0 w h2
    · obtain ⟨n, rfl⟩ := Int.eq_ofNat_of_zero_le (show 0 ≤ a0 by omega)
      have := valid_in n w (by omega) (by omega)
      have e : isEl (n : Int) = decide (Sig.mu n 2147483579 % 2 = 0) := by
        unfold isEl; rw [Int.toNat_natCast]
        have h3 : (1 : Int) ≤ n := by omega
        have h4 : (n : Int) < 2147483579 := by omega
        simp only [h3, h4, true_and]
      rw [e]; exact this
end Go.Proofs.Ytdbamhckgaoibaa.P
namespace Go.Proofs.Ytdbamhckgaoibaa.P
open Go.RowKit
def allPost {σ : Type} (B : Nat) (I : σ → World → Prop) (s : σ) (W : World) : Exit → Act → World → Prop
  | .normal, _, W' => KeepsFrom B W W' ∧ I s W'
  | .ret, _, _ => False
  | .exit _, _, _ => False
  | .goto _, _, _ => False
  | .panic _, _, _ => False
  | .outgrown, _, _ => False
theorem range_all {σ : Type} {n : Nat} {P : Program} {g : Operand} {ps : Array Tmp} {assign body : Code} {Q : Exit → Act → World → Prop} {a : Act} {w : World}
    (h1 : 1 ≤ n) {gf : Nat} {lb : Array Value} (hg : a.eval g = .func (.func gf) #[] lb) (eg : ∀ args w, (callFunc gf args).run P w = .ok (.enter gf args) w)
    (I : σ → World → Prop) (s0 : σ) (S : σ → Prop) (Y : σ → Array Value → σ → Prop) (hI : OwnFrom w.heap.size I) (h0 : I s0 w) (hps : ∀ s vs s', Y s vs s' → vs.size = ps.size)
    (hcall : ∀ (l : Nat) (W1 : World) (J : σ → World → Prop), w.heap.size ≤ W1.heap.size → (∀ s W, J s W → I s W) → (∀ s s' W W', J s W → KeepsFrom w.heap.size W W' → I s' W' → J s' W') →
      (∀ s vs s' W, Y s vs s' → J s W → YieldAt Fence.wide (n - 1 - 1) P l vs W fun e W' => e = .returned (.bool true) ∧ J s' W') → J s0 W1 →
      CallsIn Fence.wide (n - 1) P gf (#[.func (.yield l) #[] #[]] ++ lb) W1 fun e W' => (∃ v, e = .returned v) ∧ ∃ s, S s ∧ J s W')
    (hround : ∀ (l : Nat) (s : σ) (vs : Array Value) (s' : σ) (W : World), Y s vs s' → I s W →
      assign.wpIn (Fence.wide.inRound l) (n - 1 - 1) P (Exit.then (fun a₁ W₁ => KeepsFrom w.heap.size W W₁ ∧ I s W₁ ∧ ∀ W₂, I s W₂ → body.wpIn (Fence.wide.inRound l) (n - 1 - 1) P (allPost w.heap.size I s' W₂) a₁ W₂) (fun _ _ _ => False))
        { tmps := (ps.zip vs).foldl (fun t (p, v) => t.setIfInBounds p v) a.tmps, defers := [] } W)
    (hdone : ∀ (D : Nat) (s : σ) (W : World), w.heap.size ≤ D → S s → I s W → W.heap[D]? = some (.deferred (some [])) → Q .normal { a with defers := { target := .collected D, args := #[] } :: a.defers } W) :
    (Code.rangeFunc g ps assign body).wpIn Fence.wide n P Q a w := by
  refine wpIn_rangeFunc ?_; intro fn hfn
  obtain ⟨rec, hrec⟩ : ∃ rec : LoopState → Option Code → Loop, rec = fun st pe => { state := st, pending := pe, fn, tmps := a.tmps, params := ps, assign, body, defers := w.heap.size } := ⟨_, rfl⟩
  obtain ⟨W1, hW1⟩ : ∃ W1, (w.alloc (.deferred (some []))).alloc (.loop (rec .ready none)) = W1 := ⟨_, rfl⟩
  have hL1 : W1.heap[w.heap.size + 1]? = some (.loop (rec .ready none)) := by
    rw [← hW1]; have := World.alloc_heap_new (w.alloc (.deferred (some []))) (.loop (rec .ready none)); rwa [World.size_alloc] at this
  have hK1 : W1.heap[w.heap.size]? = some (.deferred (some [])) := by
    rw [← hW1]; exact (Below.heap_alloc _ _ _ (by simp)).trans (World.alloc_heap_new w _)
  have hI1 : I s0 W1 := by rw [← hW1]; exact hI.alloc _ (hI.alloc _ h0)
  have hs1 : w.heap.size ≤ W1.heap.size := by rw [← hW1]; simp; omega
  refine ⟨w.heap.size + 1, [{ target := .collected w.heap.size, args := #[] }], W1, { target := .fn (.func gf) lb, args := #[.func (.yield (w.heap.size + 1)) #[] #[]] }, W1, gf,
    #[.func (.yield (w.heap.size + 1)) #[] #[]] ++ lb, W1, ?_, ?_, ?_, ?_, fun _ => h1, ?_⟩
  · rw [← hW1, hrec]; exact run_enterLoop_outer _ _ _ _ _
  · simp only [resolve, hg]
    simp [go_sem]
  · intro f' _; trivial
  · simp [invoke, go_sem, eg]
  · refine (hcall (w.heap.size + 1) W1
      (fun s W => I s W ∧ W.heap[w.heap.size + 1]? = some (.loop (rec .ready none)) ∧ W.heap[w.heap.size]? = some (.deferred (some [])))
      hs1 (fun s W h => h.1) (fun s s' W W' h hk hi => ⟨hi, hk.same _ _ (by omega) h.2.1 rfl, hk.same _ _ (by omega) h.2.2 rfl⟩) ?_ ⟨hI1, hL1, hK1⟩).mono ?_
    · rintro s vs s' W hY ⟨hi, hl, hk⟩
      have hlt : w.heap.size + 1 < W.heap.size := (Array.getElem?_eq_some_iff.1 hl).1; have hy := run_yield (P := P) (args := vs) hl (by rw [hrec]; exact hps _ _ _ hY); rw [hrec] at hy; refine ⟨fn, _, assign, body, hy, roundIn_of_wpIn hfn (wpIn_mono (hround _ s vs s' W hY hi) ?_)⟩; rintro e a1 W4 hp1
      cases e with
      | exit id => exact hp1.elim
      | goto t => exact hp1.elim
      | ret => exact hp1.elim
      | panic ch => exact hp1.elim
      | outgrown => exact hp1.elim
      | normal =>
      obtain ⟨hk4, hi4, hbody⟩ := hp1; replace hl := hk4.same _ _ (by omega) hl rfl; replace hk := hk4.same _ _ (by omega) hk rfl; have hlt : w.heap.size + 1 < W4.heap.size := (Array.getElem?_eq_some_iff.1 hl).1; refine ⟨_, run_beginRound hl (by rw [hrec]), ?_⟩; have hl2 : (W4.putObj (w.heap.size + 1) (.loop { rec .ready none with state := .busy })).heap[w.heap.size + 1]? = some (.loop { rec .ready none with state := .busy }) := World.putObj_heap_same hlt; have hk2 : (W4.putObj (w.heap.size + 1) (.loop { rec .ready none with state := .busy })).heap[w.heap.size]? = some (.deferred (some [])) := (World.putObj_heap_other (by omega)).trans hk; refine wpIn_mono (hbody _ (hI.putObj _ hi4 (by omega) hl rfl)) ?_; rintro e a3 W3 hp
      cases e with
      | normal =>
        obtain ⟨hk3, hi3⟩ := hp; have hl3 := hk3.same _ _ (by omega) hl2 rfl; have hr := run_endRound (P := P) none hl3; rw [hrec] at hr; refine ⟨_, _, hr, rfl, hI.putObj _ hi3 (by omega) hl3 rfl, ?_, (World.putObj_heap_other (by omega)).trans (hk3.same _ _ (by omega) hk2 rfl)⟩; rw [hrec]; exact World.putObj_heap_same (Array.getElem?_eq_some_iff.1 hl3).1
      | ret => exact hp.elim
      | exit id => exact hp.elim
      | goto t => exact hp.elim
      | panic ch => exact hp.elim
      | outgrown => exact hp.elim
    · rintro e W2 ⟨⟨v, rfl⟩, s, hs, hi, hl, hk⟩
      exact ⟨none, _, by have := run_endLoop (P := P) hl (by rw [hrec]; simp); rw [hrec] at this; exact this, hdone _ _ _ (Nat.le_refl _) hs (hI.putObj _ hi (by omega) hl rfl) ((World.putObj_heap_other (by omega)).trans hk)⟩
end Go.Proofs.Ytdbamhckgaoibaa.P
namespace Go.Proofs.Ytdbamhckgaoibaa.P
open Go.RowKit Go.Proofs.YtdbamhckgaoibaaW.PrintWords Go.Proofs.YtdbamhckgaoibaaW.PrintLast Go.Proofs.YtdbamhckgaoibaaW.PrintMore
attribute [local go_sem] Oper.semAt_some
set_option linter.unusedVariables false
set_option linter.unusedSimpArgs false
theorem least_math (n : Int) : group_least.f 3 [n] = some (n % 1073741789) := by
  unfold group_least.f; simp only [group_least.l0]; have e : rd [n] 0 = n := rfl; have h := Int.tmod_eq_emod (a := n) (b := 1073741789); have h2 : (1073741789 : Int).natAbs = 1073741789 := rfl; rw [h2] at h
  have h3 : 0 ≤ n % 1073741789 ∧ n % 1073741789 < 1073741789 := by omega
  have hw : wrap64 (Int.tmod n 1073741789 + 1073741789) = Int.tmod n 1073741789 + 1073741789 := by
    unfold wrap64; split at h <;> omega
  have hr1 : 0 ≤ Int.tmod n 1073741789 + 1073741789 ∧ Int.tmod n 1073741789 + 1073741789 ≤ 2147483578 := by split at h <;> omega
  have hl : (([n] : List Int).length : Int) = 1 := rfl; rw [hl, if_pos (by decide), if_pos (by decide), if_pos (by decide), e, hw, Int.one_mul, wrap_small hr1.1 (by omega), tmod_small hr1.1]; have hw1 : wrap64 (0 + 1) = 1 := wrap_small (by decide) (by decide); rw [hw1, if_neg (by decide)]
  congr 1
  split at h <;> omega
theorem least_c (n : Int) (A0 : Option Addr) (c0 : Nat) (w : World) (hr0 : Kd.C (Kd.int .i64) w A0 1 [n]) (hc0 : 1 ≤ c0) :
    Calls Try.prog 106 #[.slice A0 1 c0] w fun e w' => e = .returned (.int .i64 (n % 1073741789)) ∧ Drawn0 w w' :=
  group_least.calls 3 A0 c0 [n] _ w hr0 hc0 (least_math n)
theorem valid_c (a0 : Int) (w : World) : Calls Try.prog 104 #[.int .i64 a0] w fun e w' => e = .returned (.bool (isEl a0)) ∧ Drawn0 w w' :=
  group_Valid.calls a0 _ w rfl
theorem cell_of_box_l {W : World} {B : Nat} {v : Value} {t : TypeId} (h : W.heap[B]? = some (.cells #[v] t (0, 0))) : W.cell? ⟨B, 0, none⟩ = some v ∧ W.frozen? ⟨B, 0, none⟩ = false := by
  constructor <;> simp [World.cell?, World.frozen?, h]
theorem cell_new_l (W : World) (v : Value) (t : TypeId) : (W.alloc (.cells #[v] t)).cell? ⟨W.heap.size, 0, none⟩ = some v ∧ (W.alloc (.cells #[v] t)).frozen? ⟨W.heap.size, 0, none⟩ = false :=
  cell_of_box_l (World.alloc_heap_new W _)
def Bx (W : World) (b : Nat) (v : Value) : Prop := W.cell? ⟨b, 0, none⟩ = some v ∧ W.frozen? ⟨b, 0, none⟩ = false
theorem Bx.new (W : World) (v : Value) (t : TypeId) : Bx (W.alloc (.cells #[v] t)) W.heap.size v := cell_new_l W v t
theorem Bx.lt {W : World} {b : Nat} {v : Value} (h : Bx W b v) : b < W.heap.size := World.block_lt_of_cell? W _ h.1
theorem Bx.below {W W' : World} {b : Nat} {v : Value} (h : Bx W b v) (hb : Below W.heap.size W W') : Bx W' b v :=
  ⟨(hb.cell (p := ⟨b, 0, none⟩) h.lt).trans h.1, (hb.frozen (p := ⟨b, 0, none⟩) h.lt).trans h.2⟩
theorem Bx.set {W : World} {b : Nat} {v : Value} (h : Bx W b v) (u : Value) : Bx (W.setCell ⟨b, 0, none⟩ u) b u :=
  ⟨World.cell?_setCell_same' _ _ _ (by rw [h.1]; rfl), by rw [World.frozen?_setCell]; exact h.2⟩
theorem Bx.other {W : World} {b c : Nat} {v : Value} (h : Bx W b v) (hne : c ≠ b) (u : Value) : Bx (W.setCell ⟨c, 0, none⟩ u) b v :=
  ⟨(World.cell?_setCell_far W ⟨c, 0, none⟩ ⟨b, 0, none⟩ u hne).trans h.1, by rw [World.frozen?_setCell]; exact h.2⟩
theorem Bx.far {W : World} {b c : Nat} {v : Value} (h : Bx W b v) (hne : c ≠ b) (j : Nat) (u : Value) : Bx (W.setCell ⟨c, j, none⟩ u) b v :=
  ⟨(World.cell?_setCell_far W ⟨c, j, none⟩ ⟨b, 0, none⟩ u hne).trans h.1, by rw [World.frozen?_setCell]; exact h.2⟩
theorem Bx.drewN {W : World} {b : Nat} {v : Value} (h : Bx W b v) (n : Nat) : Bx (W.drewN n) b v := h.below (pw_below_drewN (Below.refl _ _) n)
theorem Bx.alloc {W : World} {b : Nat} {v : Value} (h : Bx W b v) (o : Obj) : Bx (W.alloc o) b v := h.below ((Below.refl _ W).alloc (Nat.le_refl _) o)
theorem Bx.kept {W W' : World} {b : Nat} {v : Value} (h : Bx W b v) {row : Option Nat} (hg : W.grownBy W' row) (hr : ∀ r, row = some r → ∃ o : Obj, W.heap[r]? = some o ∧ o.isCells = false) : Bx W' b v :=
  ⟨cell_kept h.1 hg hr, (frozen_kept h.1 hg hr).trans h.2⟩
theorem C_one (W : World) (x : Int) (t b : Nat) (hb : b = W.heap.size) : Kd.C (Kd.int .i64) (W.alloc (.cells #[.int .i64 x] t)) (some ⟨b, 0, none⟩) 1 [x] := by
  subst hb; refine ⟨rfl, by omega, fun _ => ⟨_, rfl, fun j p hp => ?_⟩⟩
  rcases j with _ | j
  · cases hp
    refine ⟨[.int .i64 x], rfl, rfl, fun i u hu => ?_⟩
    rcases i with _ | i
    · cases hu
      exact (cell_new_l W (.int .i64 x) t).1
    · simp at hu
  · simp at hp
theorem squares_c (a n : Int) (w : World) : Calls Try.prog 105 #[.int .i64 a, .int .i64 n] w fun e w' =>
    e = .returned (.func (.func 178) #[] #[.pointer (some ⟨w.heap.size + 1, 0, none⟩), .pointer (some ⟨w.heap.size, 0, none⟩)]) ∧ w' = (w.alloc (.cells #[.int .i64 a] 3)).alloc (.cells #[.int .i64 n] 3) := by
  go_enter Try.func105, Try.ntmps105
  go_wp2
  go_ret
  exact ⟨by first | rfl | (simp; done) | (simp; rfl), rfl⟩
def PowEq (T : Int) (a : Int) (n : Nat) (c : Int) (ph : Bool) : Prop := 0 ≤ c ∧ c < 2147483579 ∧ 0 ≤ a ∧ a < 2147483579 ∧ n ≤ 1073741788 ∧
  (if ph then n ≠ 0 ∧ c * (a * a) ^ (n / 2) % 2147483579 = T else c * a ^ n % 2147483579 = T)
structure PSt where
  a : Int
  n : Nat
  c : Int
  ph : Bool
def PI (T : Int) (w : World) (bc ba bn : Nat) (s : PSt) (W : World) : Prop :=
  Bx W bc (.int .i64 s.c) ∧ Bx W ba (.int .i64 s.a) ∧ Bx W bn (.int .i64 (s.n : Int)) ∧ PowEq T s.a s.n s.c s.ph ∧ Below w.heap.size w W
theorem and_one (n : Nat) (h : n ≤ 1073741788) : bits .and .i64 (n : Int) 1 = (n : Int) % 2 :=
  bits_mask .i64 62 (by decide) (fun x h0 h1 => by rw [IntKind.wrap_i64]; omega) 1 (by decide) (n : Int) (by omega) (by omega)
theorem powP (x m : Int) (n : Nat) : (x % m) ^ n % m = x ^ n % m := Sig.pow_emod n x m
theorem mulP_l (a b : Int) : (a % 2147483579) * b % 2147483579 = a * b % 2147483579 := by rw [Int.mul_emod, Int.emod_emod, ← Int.mul_emod]
theorem mulP_r (a b : Int) : a * (b % 2147483579) % 2147483579 = a * b % 2147483579 := by rw [Int.mul_emod, Int.emod_emod, ← Int.mul_emod]
theorem sq_pow (a : Int) (m : Nat) : (a * a) ^ m = a ^ (2 * m) := by
  have e : a * a = a ^ 2 := by rw [Int.pow_succ, Int.pow_succ, Int.pow_zero, Int.one_mul]
  rw [e, ← Int.pow_mul]
def bitC (c a : Int) (n : Nat) : Int := if n % 2 = 1 then c * a % 2147483579 else c
theorem pow_bit {T a : Int} {n : Nat} {c : Int} (h : PowEq T a n c false) (hn : n ≠ 0) : PowEq T a n (bitC c a n) true := by
  unfold bitC; obtain ⟨h1, h2, h3, h4, h5, h6⟩ := h; have h6 : c * a ^ n % 2147483579 = T := h6; unfold PowEq
  by_cases ho : n % 2 = 1
  · rw [if_pos ho, if_pos rfl]
    refine ⟨by omega, by omega, h3, h4, h5, hn, ?_⟩; rw [mulP_l, sq_pow, Int.mul_assoc, Int.mul_comm a, ← Int.pow_succ, ← h6]
    congr 3
    omega
  · rw [if_neg ho, if_pos rfl]
    refine ⟨h1, h2, h3, h4, h5, hn, ?_⟩; rw [sq_pow, ← h6]
    congr 3
    omega
theorem pow_next {T a : Int} {n : Nat} {c : Int} (h : PowEq T a n c true) : PowEq T (a * a % 2147483579) (n / 2) c false := by
  obtain ⟨h1, h2, h3, h4, h5, h6⟩ := h; rw [if_pos rfl] at h6; unfold PowEq; rw [if_neg (by decide)]; refine ⟨h1, h2, by omega, by omega, by omega, ?_⟩; rw [← mulP_r, powP, mulP_r]; exact h6.2
theorem mulP_range {x y : Int} (hx : 0 ≤ x ∧ x < 2147483579) (hy : 0 ≤ y ∧ y < 2147483579) : 0 ≤ x * y ∧ x * y ≤ 4611685717779682084 := by
  have h1 : x * y ≤ 2147483578 * 2147483578 := Int.mul_le_mul (by omega) (by omega) hy.1 (by omega); have h2 := Int.mul_nonneg hx.1 hy.1; exact ⟨h2, by omega⟩
def PY (s : PSt) (vs : Array Value) (s' : PSt) : Prop := s.ph = false ∧ s.n ≠ 0 ∧ vs = #[.int .i64 s.a, .bool ((s.n : Int) % 2 == 1)] ∧ s' = ⟨s.a, s.n, bitC s.c s.a s.n, true⟩
set_option maxHeartbeats 1000000 in
theorem squares1_in (T : Int) (w0 : World) (bc ba bn l : Nat) (J : PSt → World → Prop) (B : Nat) (h1 : bc ≠ ba) (h2 : bc ≠ bn) (h3 : ba ≠ bn) (hw1 : w0.heap.size ≤ ba) (hw2 : w0.heap.size ≤ bn)
    (hJI : ∀ s W, J s W → PI T w0 bc ba bn s W) (hJ : ∀ s s' W W', J s W → KeepsFrom B W W' → PI T w0 bc ba bn s' W' → J s' W')
    (hY : ∀ s vs s' W, PY s vs s' → J s W → YieldAt Fence.wide 7 Try.prog l vs W fun e W' => e = .returned (.bool true) ∧ J s' W')
    (s0 : PSt) (hs0 : s0.ph = false) (W : World) (h0 : J s0 W) :
    CallsIn Fence.wide 8 Try.prog 178 #[.func (.yield l) #[] #[], .pointer (some ⟨bn, 0, none⟩), .pointer (some ⟨ba, 0, none⟩)] W fun e W' => (∃ v, e = .returned v) ∧ ∃ s : PSt, (s.n = 0 ∧ s.ph = false) ∧ J s W' := by
  refine callsIn_of_wp Try.func178 rfl trivial ?_ rfl; simp only [Try.ntmps178, List.size_toArray, List.length_cons, List.length_nil, Nat.reduceAdd, Nat.reduceSub, Array.replicate_succ, Array.replicate_zero, List.push_toArray, List.append_toArray, List.nil_append, List.cons_append]
  gi_wp2
  gi_loopg [4] s0.n (fun gk v4 wr => ∃ s : PSt, s.n = gk ∧ s.ph = false ∧ J s wr)
  case atStart => exact ⟨s0, rfl, hs0, h0⟩
  case round =>
    obtain ⟨⟨a, n, c, ph⟩, rfl, rfl, hj⟩ := hrel; obtain ⟨bc1, ba1, bn1, hE, hB⟩ := hJI _ _ hj; obtain ⟨ha1, ha2⟩ := ba1; obtain ⟨hn1, hn2⟩ := bn1; simp only at ha1 hn1 hE
    rcases Nat.eq_zero_or_pos n with hz | hz
    · subst hz
      have hz0 : decide ((0 : Int) < ((0 : Nat) : Int)) = false := rfl
      gi_wp2
      go_end0
      exact ⟨⟨_, rfl⟩, ⟨a, 0, c, false⟩, ⟨rfl, rfl⟩, hj⟩
    · have hz0 : decide ((0 : Int) < (n : Int)) = true := decide_eq_true (by omega)
      obtain ⟨fn, tmps, assign, body, hy, hR⟩ := hY ⟨a, n, c, false⟩ _ _ wr ⟨rfl, (by omega : n ≠ 0), rfl, rfl⟩ hj; simp only at hy; have hn3 : n ≤ 1073741788 := hE.2.2.2.2.1; have hbit := and_one n hn3; have hra := mulP_range ⟨hE.2.2.1, hE.2.2.2.1⟩ ⟨hE.2.2.1, hE.2.2.2.1⟩; have hwr := wrap_small hra.1 (by omega); have htm := tmod_small (m := 2147483579) hra.1; clear hra; have HE := Aside0.mk hE; clear hE; have HB := Aside0.mk hB; clear hB
      gi_wp2
      refine hR.mono ?_; rintro e W' ⟨rfl, hj2⟩; obtain ⟨bc2, ba2, bn2, hE2, hB2⟩ := hJI _ _ hj2; have HE2 := Aside0.mk hE2; clear hE2; have HB2 := Aside0.mk hB2; clear hB2; have ba2' := ba2; have bn2' := bn2; obtain ⟨ha3, ha4⟩ := ba2; obtain ⟨hn3, hn4⟩ := bn2; simp only at ha3 hn3; have hn5 : (W'.setCell ⟨ba, 0, none⟩ (.int .i64 (a * a % 2147483579))).cell? ⟨bn, 0, none⟩ = some (.int .i64 (n : Int)) := ((show Bx W' bn _ from bn2').other h3 _).1; have hn6 : (W'.setCell ⟨ba, 0, none⟩ (.int .i64 (a * a % 2147483579))).frozen? ⟨bn, 0, none⟩ = false := ((show Bx W' bn _ from bn2').other h3 _).2
      gi_wp2
      gi_roundg (n / 2)
      case measure => omega
      case rel =>
        refine ⟨⟨a * a % 2147483579, n / 2, bitC c a n, false⟩, rfl, rfl, hJ _ _ _ _ hj2 ?_ ?_⟩
        · exact ((KeepsOthers.setCell _ _ _).trans (KeepsOthers.setCell _ _ _)).from _
        · refine ⟨(Bx.other bc2 h1.symm _).other h2.symm _, (Bx.set ba2' _).other h3.symm _, ?_, pow_next HE2.out, (HB2.out.setCell hw1 _).setCell hw2 _⟩
          have := (Bx.other bn2' h3 (.int .i64 (a * a % 2147483579))).set (.int .i64 ((n : Int) / 2)); rw [show (((n / 2 : Nat)) : Int) = (n : Int) / 2 from by omega]; exact this
theorem pow_start {a : Int} {n : Nat} (h : isEl a = true) (hn : n ≤ 1073741788) : PowEq (a ^ n % 2147483579) a n 1 false := by
  unfold isEl at h; have h := of_decide_eq_true h; exact ⟨by decide, by decide, by omega, by omega, hn, by rw [if_neg (by decide), Int.one_mul]⟩
theorem pow_over {T a c : Int} (h : PowEq T a 0 c false) : c = T := by
  obtain ⟨h1, h2, h3, h4, h5, h6⟩ := h; have h6 : c * a ^ 0 % 2147483579 = T := h6; rw [Int.pow_zero, Int.mul_one, Int.emod_eq_of_lt h1 h2] at h6; exact h6
set_option maxHeartbeats 2000000 in
theorem pow_yes (a n : Int) (w : World) (h : isEl a = true) : Calls Try.prog 34 #[.int .i64 a, .int .i64 n] w fun e w' => e = .returned (.tuple #[.int .i64 (a ^ (n % 1073741789).toNat % 2147483579), .int .i64 0]) ∧ Below w.heap.size w w' := by
  obtain ⟨m, hm⟩ : ∃ m, m = (n % 1073741789).toNat := ⟨_, rfl⟩
  have hm1 : n % 1073741789 = (m : Int) := by omega
  have hm2 : m ≤ 1073741788 := by omega
  have HS := Aside0.mk (pow_start h hm2); rw [← hm]; have HM := Aside0.mk hm1; have HM2 := Aside0.mk hm2; clear hm hm1 hm2; generalize a ^ m % 2147483579 = T at HS ⊢; refine (callsIn_wide (n := 9)).1 ?_; refine callsIn_of_wp_marks Try.func34 rfl trivial ?_ rfl; simp only [Try.ntmps34, List.size_toArray, List.length_cons, List.length_nil, Nat.reduceAdd, Nat.reduceSub, Array.replicate_succ, Array.replicate_zero, List.push_toArray, List.append_toArray, List.nil_append, List.cons_append]
  gi_wp2_with (first | (refine ⟨trivial, ?_⟩; gi_at_call 104; refine (callsIn_wide.2 (valid_c a _)).mono ?_; rintro e w' ⟨rfl, ⟨nd, rfl⟩⟩; rw [h]) | (refine ⟨trivial, ?_⟩; gi_at_call 106; refine (callsIn_wide.2 (least_c n _ _ _ (by exact C_one _ _ _ _ (by simp)) (Nat.le_refl _))).mono ?_; rintro e w' ⟨rfl, ⟨nd2, rfl⟩⟩; rw [HM.out]) | (refine ⟨trivial, ?_⟩; gi_at_call 105; refine (callsIn_wide.2 (squares_c a _ _)).mono ?_; rintro e w' ⟨rfl, rfl⟩))
  obtain ⟨W0, hW0⟩ : ∃ W0, (((((((w.alloc (.cells #[.int .i64 0] 3)).drewN nd).setCell ⟨w.heap.size, 0, none⟩ (.int .i64 1)).alloc (.cells #[.int .i64 n] 3)).drewN nd2).alloc (.cells #[.int .i64 a] 3)).alloc (.cells #[.int .i64 (m : Int)] 3)) = W0 := ⟨_, rfl⟩
  rw [hW0]
  have b1 : Bx W0 w.heap.size (.int .i64 1) := by
    rw [← hW0]; exact (((((Bx.new w (.int .i64 0) 3).drewN nd).set _).alloc _).drewN nd2 |>.alloc _).alloc _
  have b2 : Bx W0 (w.heap.size + 1 + 1) (.int .i64 a) := by
    rw [← hW0]; have := (Bx.new (((((w.alloc (.cells #[.int .i64 0] 3)).drewN nd).setCell ⟨w.heap.size, 0, none⟩ (.int .i64 1)).alloc (.cells #[.int .i64 n] 3)).drewN nd2) (.int .i64 a) 3).alloc (.cells #[.int .i64 (m : Int)] 3)
    simpa using this
  have b3 : Bx W0 (w.heap.size + 1 + 1 + 1) (.int .i64 (m : Int)) := by
    rw [← hW0]; have := Bx.new ((((((w.alloc (.cells #[.int .i64 0] 3)).drewN nd).setCell ⟨w.heap.size, 0, none⟩ (.int .i64 1)).alloc (.cells #[.int .i64 n] 3)).drewN nd2).alloc (.cells #[.int .i64 a] 3)) (.int .i64 (m : Int)) 3
    simpa using this
  have hB : Below w.heap.size w W0 := by
    rw [← hW0]; exact (((pw_below_drewN (((pw_below_drewN ((Below.refl _ w).alloc (Nat.le_refl _) _) nd).setCell (Nat.le_refl _) _).alloc (by simp) _) nd2).alloc (by simp; omega) _).alloc (by simp; omega) _)
  have hsz : w.heap.size + 4 = W0.heap.size := by rw [← hW0]; simp
  have HB := Aside0.mk hB; clear hB hW0; refine range_all (by omega) rfl (enters_of Try.func178 (by kernel_rfl) rfl) (PI T w w.heap.size (w.heap.size + 1 + 1) (w.heap.size + 1 + 1 + 1)) ⟨a, m, 1, false⟩ (fun s => s.n = 0 ∧ s.ph = false) PY ?_ ⟨b1, b2, b3, HS.out, HB.out⟩ ?_ ?_ ?_ ?_
  · rintro s W W' row ⟨h1, h2, h3, h4, h5⟩ hg hr
    exact ⟨h1.kept hg (fun r e => (hr r e).2), h2.kept hg (fun r e => (hr r e).2), h3.kept hg (fun r e => (hr r e).2), h4, h5.grown hg h5.size (fun k e => by have := (hr k e).1; omega)⟩
  · rintro s vs s' ⟨_, _, rfl, _⟩
    rfl
  · intro l W1 J _ hJI hJ hY h0
    exact squares1_in T w w.heap.size (w.heap.size + 1 + 1) (w.heap.size + 1 + 1 + 1) l J _ (by omega) (by omega) (by omega) (by omega) (by omega) hJI hJ hY _ rfl W1 h0
  · rintro l ⟨a1, n1, c1, ph⟩ vs s' W ⟨rfl, hn0, rfl, rfl⟩ hI
    have HI := Aside0.mk hI; clear hI
    gi_wp2
    refine ⟨KeepsFrom.refl _ _, HI.out, ?_⟩; rintro W2 ⟨⟨e1, e2⟩, e3, e4, hE, hBl⟩; simp only at e1; have HE := Aside0.mk (pow_bit hE hn0); have hr := mulP_range ⟨hE.1, hE.2.1⟩ ⟨hE.2.2.1, hE.2.2.2.1⟩; have hwr := wrap_small hr.1 (by omega); have htm := tmod_small (m := 2147483579) hr.1; have HB2 := Aside0.mk hBl; clear hr hE hBl
    rcases Nat.mod_two_eq_zero_or_one n1 with ho | ho
    · have hb : ((n1 : Int) % 2 == 1) = false := beq_eq_false_iff_ne.2 (by omega)
      have hbc : bitC c1 a1 n1 = c1 := by unfold bitC; rw [if_neg (by omega)]
      rw [hbc] at HE ⊢; clear hbc; clear ho
      gi_wp2
      exact ⟨KeepsFrom.refl _ _, ⟨e1, e2⟩, e3, e4, HE.out, HB2.out⟩
    · have hb : ((n1 : Int) % 2 == 1) = true := beq_iff_eq.2 (by omega)
      have hbc : bitC c1 a1 n1 = c1 * a1 % 2147483579 := by unfold bitC; rw [if_pos ho]
      rw [hbc] at HE ⊢; clear hbc; clear ho
      gi_wp2
      exact ⟨(KeepsOthers.setCell _ _ _).from _, (show Bx W2 _ _ from ⟨e1, e2⟩).set _, e3.other (by omega) _, e4.other (by omega) _, HE.out, HB2.out.setCell (Nat.le_refl _) _⟩
  · rintro D ⟨a1, n1, c1, ph⟩ W hD ⟨rfl, rfl⟩ ⟨⟨e1, e2⟩, e3, e4, hE, hBl⟩ hK
    have hT := pow_over hE; simp only at e1 hT; subst hT
    gi_wp2
    have hK2 := ((KeepsOthers.setCell W ⟨w.heap.size, 0, none⟩ (.int .i64 c1)).same D _ hK rfl)
    refine ⟨by simp, .inl ⟨_, _, rfl, run_takeDeferred hK2, ?_⟩⟩; have hcell := ((Bx.set (show Bx W w.heap.size _ from ⟨e1, e2⟩) (.int .i64 c1)).kept (grownBy_putObj' (W.setCell ⟨w.heap.size, 0, none⟩ (.int .i64 c1)) D (.deferred none)) (fun r e => by cases e; exact ⟨_, hK2, rfl⟩)).1; refine ⟨.tuple #[.int .i64 c1, .int .i64 0], by simp [results, Try.results34, go_sem, hcell], rfl, ?_⟩; exact (hBl.setCell (Nat.le_refl _) _).grown (grownBy_putObj' _ D _) (by simp; have := hBl.size; omega) (fun k e => by cases e; omega)
theorem pow_no (a n : Int) (w : World) (h : isEl a = false) : Calls Try.prog 34 #[.int .i64 a, .int .i64 n] w fun e w' => e = .returned (.tuple #[.int .i64 0, .int .i64 100]) ∧ Below w.heap.size w w' := by
  go_enter Try.func34, Try.ntmps34
  go_wp2_with (go_at_call 104; refine (valid_c a _).mono ?_; rintro e w' ⟨rfl, ⟨nd, rfl⟩⟩; rw [h]); have hcell := (((Bx.new w (.int .i64 0) 3).drewN nd).set (.int .i64 0)).1; refine bodyPost_ret (v := .tuple #[.int .i64 0, .int .i64 100]) (by simp [results, Try.results34, go_sem, hcell]) rfl ⟨rfl, ?_⟩; exact (pw_below_drewN ((Below.refl _ w).alloc (Nat.le_refl _) _) nd).setCell (Nat.le_refl _) _
def group_Pow.f (a0 a1 : Int) : Option (Int × Int) := some (if isEl a0 then (a0 ^ (a1 % 1073741789).toNat % 2147483579, 0) else (0, 100))
theorem group_Pow.calls (a0 a1 : Int) (r1 r2 : Int) (w : World) (h : group_Pow.f a0 a1 = some (r1, r2)) :
    Calls Try.prog 34 #[.int .i64 a0, .int .i64 a1] w fun e w' => e = .returned (.tuple #[.int .i64 r1, .int .i64 r2]) ∧ Below w.heap.size w w' := by
  unfold group_Pow.f at h
  cases hv : isEl a0 with
  | true => rw [hv] at h; cases h; exact pow_yes a0 a1 w hv
  | false => rw [hv] at h; cases h; exact pow_no a0 a1 w hv
end Go.Proofs.Ytdbamhckgaoibaa.P
