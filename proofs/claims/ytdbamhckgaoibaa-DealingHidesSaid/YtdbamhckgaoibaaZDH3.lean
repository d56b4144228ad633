/- A part of the proof of DealingHides: slices.ContainsFunc with the program's own predicates tells whether one of the elements meets the predicate.; The calls of program.Check, dealing.numbers, group.Mul come to what their functions in Lean say.; The calls of linear.turned come to what their functions in Lean say.; linear.turned makes the table of the equations.; program.Check in plain words.; The group in plain words: elements, powers, the generator.; A region that draws its order, in a round of a range over a function: walked as anywhere else.; linear.clear takes away from a row the multiple of another one.; What linear.reduce needs beside its walk: the marks of ranges over functions, rows of one's own, the order of the eliminations. -/
import Derived.Test.YtdbamhckgaoibaaZDH2
import Derived.OrdersIn
import Derived.OwnWalkIn
import Derived.RangeFuncCalls
import Derived.RangeFuncWrites
import Derived.Shelf.Abstract
import Derived.Sort.LoopGhostIn
namespace Go.Proofs.Ytdbamhckgaoibaa.P
open Go.RowKit Go.Proofs.YtdbamhckgaoibaaW.PrintWords Go.Proofs.YtdbamhckgaoibaaW.PrintLast Go.Proofs.YtdbamhckgaoibaaW.PrintMore
set_option linter.unusedVariables false
set_option linter.unusedSimpArgs false
def Says (g : Nat) (p : Int → Bool) : Prop := ∀ (x : Int) (W : World), Calls Try.prog g #[.int .i64 x] W fun e w' => e = .returned (.bool (p x)) ∧ Drawn0 W w'
def Found (p : Int → Bool) (l : List Int) (w : World) (e : Ending) (w' : World) : Prop := ∃ i : Int, e = .returned (.int .i64 i) ∧ decide (0 ≤ i) = l.any p ∧ Drawn0 w w'
theorem any_take_stop {p : Int → Bool} {l : List Int} {j : Nat} (hj : j < l.length) (h : p l[j] = true) : l.any p = true := by
  rw [List.any_eq_true]; exact ⟨l[j], List.getElem_mem hj, h⟩
theorem any_take_next {p : Int → Bool} {l : List Int} {j : Nat} (hj : j < l.length) (h0 : (l.take j).any p = false) (h : p l[j] = false) : (l.take (j + 1)).any p = false := by
  rw [List.take_succ_eq_append_getElem hj, List.any_append, h0]; simp [h]
set_option maxHeartbeats 1000000 in
theorem index_any {g : Nat} {p : Int → Bool} (hs : Says g p) (eg : ∀ args w, (callFunc g args).run Try.prog w = .ok (.enter g args) w) (A0 : Option Addr) (c0 : Nat) (l : List Int) (w : World) (hr : Kd.C (Kd.int .i64) w A0 l.length l) :
    Calls Try.prog 194 #[.slice A0 l.length c0, .func (.func g) #[] #[]] w (Found p l w) := by
  have HS := Aside0.mk hs
  have HR := Aside0.mk hr
  have hlen : l.length ≤ 9223372036854775807 := hr.2.1
  clear hs hr
  go_enter Try.func194, Try.ntmps194
  go_wp2
  go_loopg [8] l.length (fun gk v8 w' => ∃ j : Nat, j + gk = l.length ∧ v8 = .int .i64 (j : Int) ∧ Aside0 ((l.take j).any p = false) ∧ Drawn0 w w')
  case atStart => exact ⟨0, by omega, rfl, ⟨by simp⟩, by repeat (first | exact Drawn0.refl _ | apply Drawn0.step)⟩
  case round =>
    obtain ⟨j, hj, rfl, HA, ⟨m, rfl⟩⟩ := hrel
    by_cases hlt : j < l.length
    · have c1 : decide ((j : Int) < (l.length : Int)) = true := decide_eq_true (by omega)
      have c2 : decide (j < l.length) = true := decide_eq_true hlt
      obtain ⟨ad, e, hx⟩ := Kd.at_int HR.out (j : Int) (by omega) (by omega)
      cases e
      rw [Int.toNat_natCast] at hx
      have hrd : rd l (j : Int) = l[j] := by
        unfold rd
        rw [Int.toNat_natCast, List.getD_eq_getElem?_getD, List.getElem?_eq_getElem hlt]; rfl
      rw [hrd] at hx
      have c3 : (0 : Int) ≤ (j : Int) := by omega
      generalize hy : l[j] = y at hx
      have HY := Aside0.mk hy
      clear hy hrd
      go_wp2_with fail
      refine (HS.out _ _).mono ?_
      rintro e w' ⟨rfl, ⟨nd, rfl⟩⟩
      cases hpy : p y with
      | true =>
        have hf : l.any p = true := any_take_stop hlt (by rw [HY.out]; exact hpy)
        have HF := Aside0.mk hf
        clear hf hpy
        go_wp2
        go_ret
        exact ⟨(j : Int), by first | rfl | simp, by rw [HF.out]; exact decide_eq_true (by omega), by repeat (first | exact Drawn0.refl _ | apply Drawn0.step)⟩
      | false =>
        have HF := Aside0.mk (any_take_next hlt HA.out (by rw [HY.out]; exact hpy))
        clear hpy
        go_wp2
        go_roundg (gk - 1)
        case measure => omega
        case rel => exact ⟨j + 1, by omega, by go_num, HF, by repeat (first | exact Drawn0.refl _ | apply Drawn0.step)⟩
    · have hje : j = l.length := by omega
      have c1 : decide ((j : Int) < (l.length : Int)) = false := decide_eq_false (by omega)
      have c2 : decide (j < l.length) = false := decide_eq_false (by omega)
      have hf : l.any p = false := by have := HA.out; rw [hje, List.take_length] at this; exact this
      have HF := Aside0.mk hf
      clear hf hje
      go_wp2
      go_ret
      exact ⟨-1, by first | rfl | simp, by rw [HF.out]; rfl, by repeat (first | exact Drawn0.refl _ | apply Drawn0.step)⟩
theorem contains_any {g : Nat} {p : Int → Bool} (hs : Says g p) (eg : ∀ args w, (callFunc g args).run Try.prog w = .ok (.enter g args) w) (A0 : Option Addr) (c0 : Nat) (l : List Int) (w : World) (hr : Kd.C (Kd.int .i64) w A0 l.length l) :
    Calls Try.prog 161 #[.slice A0 l.length c0, .func (.func g) #[] #[]] w fun e w' => e = .returned (.bool (l.any p)) ∧ Drawn0 w w' := by
  have HS := Aside0.mk hs
  have HR := Aside0.mk hr
  have HE := Aside0.mk eg
  clear hs hr eg
  have HG := fun W => index_any HS.out HE.out A0 c0 l W
  unfold Found at HG
  generalize l.any p = b at HG ⊢
  have HG := Aside0.mk HG
  go_enter Try.func161, Try.ntmps161
  go_wp2_with fail
  refine (HG.out _ HR.out).mono ?_
  rintro e w' ⟨i, rfl, hi, ⟨nd, rfl⟩⟩
  go_wp2
  go_ret
  exact ⟨by first | rfl | simp, by repeat (first | exact Drawn0.refl _ | apply Drawn0.step)⟩
def SaysL (g : Nat) (p : List Int → Bool) : Prop := ∀ (A : Option Addr) (c : Nat) (x : List Int) (W : World), Calls Try.prog g #[.slice A x.length c] W fun e w' => e = .returned (.bool (p x)) ∧ Drawn0 W w'
def FoundL (p : List Int → Bool) (l : List (List Int)) (w : World) (e : Ending) (w' : World) : Prop := ∃ i : Int, e = .returned (.int .i64 i) ∧ decide (0 ≤ i) = l.any p ∧ Drawn0 w w'
theorem anyL_take_stop {p : List Int → Bool} {l : List (List Int)} {j : Nat} (hj : j < l.length) (h : p l[j] = true) : l.any p = true := by
  rw [List.any_eq_true]; exact ⟨l[j], List.getElem_mem hj, h⟩
theorem anyL_take_next {p : List Int → Bool} {l : List (List Int)} {j : Nat} (hj : j < l.length) (h0 : (l.take j).any p = false) (h : p l[j] = false) : (l.take (j + 1)).any p = false := by
  rw [List.take_succ_eq_append_getElem hj, List.any_append, h0]; simp [h]
set_option maxHeartbeats 1000000 in
theorem indexL_any {g : Nat} {p : List Int → Bool} (hs : SaysL g p) (eg : ∀ args w, (callFunc g args).run Try.prog w = .ok (.enter g args) w) (A0 : Option Addr) (c0 : Nat) (l : List (List Int)) (w : World) (hr : Kd.C (Kd.slice 3 (Kd.int .i64)) w A0 l.length l) :
    Calls Try.prog 193 #[.slice A0 l.length c0, .func (.func g) #[] #[]] w (FoundL p l w) := by
  have HS := Aside0.mk hs
  have HR := Aside0.mk hr
  have hlen : l.length ≤ 9223372036854775807 := hr.2.1
  clear hs hr
  go_enter Try.func193, Try.ntmps193
  go_wp2
  go_loopg [8] l.length (fun gk v8 w' => ∃ j : Nat, j + gk = l.length ∧ v8 = .int .i64 (j : Int) ∧ Aside0 ((l.take j).any p = false) ∧ Drawn0 w w')
  case atStart => exact ⟨0, by omega, rfl, ⟨by simp⟩, by repeat (first | exact Drawn0.refl _ | apply Drawn0.step)⟩
  case round =>
    obtain ⟨j, hj, rfl, HA, ⟨m, rfl⟩⟩ := hrel
    by_cases hlt : j < l.length
    · have c1 : decide ((j : Int) < (l.length : Int)) = true := decide_eq_true (by omega)
      have c2 : decide (j < l.length) = true := decide_eq_true hlt
      obtain ⟨ad, A1, c3, e, hx, hx2, hx3⟩ := at_L1 HR.out (j : Int) (by omega) (by omega)
      cases e
      rw [Int.toNat_natCast] at hx
      have hrd : rd_L1 l (j : Int) = l[j] := by
        unfold rd_L1
        rw [Int.toNat_natCast, List.getD_eq_getElem?_getD, List.getElem?_eq_getElem hlt]; rfl
      rw [hrd] at hx
      clear hx2 hx3
      have c4 : (0 : Int) ≤ (j : Int) := by omega
      generalize hy : l[j] = y at hx
      have HY := Aside0.mk hy
      clear hy hrd
      go_wp2_with fail
      refine (HS.out _ _ _ _).mono ?_
      rintro e w' ⟨rfl, ⟨nd, rfl⟩⟩
      cases hpy : p y with
      | true =>
        have hf : l.any p = true := anyL_take_stop hlt (by rw [HY.out]; exact hpy)
        have HF := Aside0.mk hf
        clear hf hpy
        go_wp2
        go_ret
        exact ⟨(j : Int), by first | rfl | simp, by rw [HF.out]; exact decide_eq_true (by omega), by repeat (first | exact Drawn0.refl _ | apply Drawn0.step)⟩
      | false =>
        have HF := Aside0.mk (anyL_take_next hlt HA.out (by rw [HY.out]; exact hpy))
        clear hpy
        go_wp2
        go_roundg (gk - 1)
        case measure => omega
        case rel => exact ⟨j + 1, by omega, by go_num, HF, by repeat (first | exact Drawn0.refl _ | apply Drawn0.step)⟩
    · have hje : j = l.length := by omega
      have c1 : decide ((j : Int) < (l.length : Int)) = false := decide_eq_false (by omega)
      have c2 : decide (j < l.length) = false := decide_eq_false (by omega)
      have hf : l.any p = false := by have := HA.out; rw [hje, List.take_length] at this; exact this
      have HF := Aside0.mk hf
      clear hf hje
      go_wp2
      go_ret
      exact ⟨-1, by first | rfl | simp, by rw [HF.out]; rfl, by repeat (first | exact Drawn0.refl _ | apply Drawn0.step)⟩
theorem containsL_any {g : Nat} {p : List Int → Bool} (hs : SaysL g p) (eg : ∀ args w, (callFunc g args).run Try.prog w = .ok (.enter g args) w) (A0 : Option Addr) (c0 : Nat) (l : List (List Int)) (w : World) (hr : Kd.C (Kd.slice 3 (Kd.int .i64)) w A0 l.length l) :
    Calls Try.prog 157 #[.slice A0 l.length c0, .func (.func g) #[] #[]] w fun e w' => e = .returned (.bool (l.any p)) ∧ Drawn0 w w' := by
  have HS := Aside0.mk hs
  have HR := Aside0.mk hr
  have HE := Aside0.mk eg
  clear hs hr eg
  have HG := fun W => indexL_any HS.out HE.out A0 c0 l W
  unfold FoundL at HG
  generalize l.any p = b at HG ⊢
  have HG := Aside0.mk HG
  go_enter Try.func157, Try.ntmps157
  go_wp2_with fail
  refine (HG.out _ HR.out).mono ?_
  rintro e w' ⟨i, rfl, hi, ⟨nd, rfl⟩⟩
  go_wp2
  go_ret
  exact ⟨by first | rfl | simp, by repeat (first | exact Drawn0.refl _ | apply Drawn0.step)⟩
def outQ (x : Int) : Bool := decide (x < 0) || decide (1073741789 ≤ x)
theorem outQ_low {x : Int} (h : x < 0) : outQ x = true := by simp [outQ, h]
theorem outQ_high {x : Int} (h : ¬ x < 0) : outQ x = decide (1073741789 ≤ x) := by simp [outQ, h]
theorem says_numbers : Says 162 outQ := by
  intro x w
  by_cases h : x < 0
  · have b1 : decide (x < 0) = true := decide_eq_true h
    rw [outQ_low h]
    go_enter Try.func162, Try.ntmps162
    go_wp2
    go_ret
    exact ⟨rfl, by repeat (first | exact Drawn0.refl _ | apply Drawn0.step)⟩
  · have b1 : decide (x < 0) = false := decide_eq_false h
    rw [outQ_high h]
    go_enter Try.func162, Try.ntmps162
    go_wp2
    go_ret
    exact ⟨rfl, by repeat (first | exact Drawn0.refl _ | apply Drawn0.step)⟩
theorem says_linear : Says 205 outQ := by
  intro x w
  by_cases h : x < 0
  · have b1 : decide (x < 0) = true := decide_eq_true h
    rw [outQ_low h]
    go_enter Try.func205, Try.ntmps205
    go_wp2
    go_ret
    exact ⟨rfl, by repeat (first | exact Drawn0.refl _ | apply Drawn0.step)⟩
  · have b1 : decide (x < 0) = false := decide_eq_false h
    rw [outQ_high h]
    go_enter Try.func205, Try.ntmps205
    go_wp2
    go_ret
    exact ⟨rfl, by repeat (first | exact Drawn0.refl _ | apply Drawn0.step)⟩
theorem within_math (a b c : Int) : program_within.f a b c = some (decide (b ≤ a) && decide (a ≤ c)) := by
  unfold program_within.f
  by_cases h : b ≤ a <;> simp [h]
theorem within_c (a b c : Int) (w : World) : Calls Try.prog 159 #[.int .i64 a, .int .i64 b, .int .i64 c] w fun e w' => e = .returned (.bool (decide (b ≤ a) && decide (a ≤ c))) ∧ Drawn0 w w' :=
  program_within.calls a b c _ w (within_math a b c)
theorem outQ_within (x : Int) : outQ x = !(decide (0 ≤ x) && decide (x ≤ 1073741788)) := by
  unfold outQ
  by_cases h1 : x < 0 <;> by_cases h2 : 1073741789 ≤ x <;> simp [h1, h2] <;> omega
theorem says_odd : Says 158 outQ := by
  intro x w
  rw [outQ_within]
  have H := Aside0.mk (fun W => within_c x 0 1073741788 W)
  generalize (decide (0 ≤ x) && decide (x ≤ 1073741788)) = b at H ⊢
  go_enter Try.func158, Try.ntmps158
  go_wp2_with fail
  refine (H.out _).mono ?_
  rintro e w' ⟨rfl, ⟨nd, rfl⟩⟩
  go_wp2
  go_ret
  exact ⟨by first | rfl | simp, by repeat (first | exact Drawn0.refl _ | apply Drawn0.step)⟩
def noEl (x : Int) : Bool := !isEl x
theorem says_noEl : Says 175 noEl := by
  intro x w
  unfold noEl
  have H := Aside0.mk (fun W => group_Valid.calls x _ W rfl)
  generalize isEl x = b at H ⊢
  go_enter Try.func175, Try.ntmps175
  go_wp2_with fail
  refine (H.out _).mono ?_
  rintro e w' ⟨rfl, ⟨nd, rfl⟩⟩
  go_wp2
  go_ret
  exact ⟨by first | rfl | simp, by repeat (first | exact Drawn0.refl _ | apply Drawn0.step)⟩
def isLong (x : List Int) : Bool := decide (64 < x.length)
theorem says_long : SaysL 156 isLong := by
  intro A c x w
  have e : isLong x = decide (64 < (x.length : Int)) := by unfold isLong; congr 1; exact propext ⟨fun h => by omega, fun h => by omega⟩
  rw [e]
  clear e
  go_enter Try.func156, Try.ntmps156
  go_wp2
  go_ret
  exact ⟨by first | rfl | simp, by repeat (first | exact Drawn0.refl _ | apply Drawn0.step)⟩
def contains_outQ.f (l0 : List Int) : Option Bool := some (l0.any outQ)
theorem contains_outQ.calls (A0 : Option Addr) (c0 : Nat) (l0 : List Int) (r : Bool) (w : World) (hr0 : Kd.C (Kd.int .i64) w A0 l0.length l0) (hc0 : l0.length ≤ c0) (h : contains_outQ.f l0 = some r) :
    Calls Try.prog 161 #[.slice A0 l0.length c0, .func (.func 162) #[] #[]] w fun e w' => e = .returned (.bool r) ∧ Drawn0 w w' := by
  obtain rfl := Option.some.inj h
  exact contains_any says_numbers (enters_of Try.func162 (by kernel_rfl) rfl) A0 c0 l0 w hr0
def contains_odd.f (l0 : List Int) : Option Bool := some (l0.any outQ)
theorem contains_odd.calls (A0 : Option Addr) (c0 : Nat) (l0 : List Int) (r : Bool) (w : World) (hr0 : Kd.C (Kd.int .i64) w A0 l0.length l0) (hc0 : l0.length ≤ c0) (h : contains_odd.f l0 = some r) :
    Calls Try.prog 161 #[.slice A0 l0.length c0, .func (.func 158) #[] #[]] w fun e w' => e = .returned (.bool r) ∧ Drawn0 w w' := by
  obtain rfl := Option.some.inj h
  exact contains_any says_odd (enters_of Try.func158 (by kernel_rfl) rfl) A0 c0 l0 w hr0
def contains_oddL.f (l0 : List Int) : Option Bool := some (l0.any outQ)
theorem contains_oddL.calls (A0 : Option Addr) (c0 : Nat) (l0 : List Int) (r : Bool) (w : World) (hr0 : Kd.C (Kd.int .i64) w A0 l0.length l0) (hc0 : l0.length ≤ c0) (h : contains_oddL.f l0 = some r) :
    Calls Try.prog 161 #[.slice A0 l0.length c0, .func (.func 205) #[] #[]] w fun e w' => e = .returned (.bool r) ∧ Drawn0 w w' := by
  obtain rfl := Option.some.inj h
  exact contains_any says_linear (enters_of Try.func205 (by kernel_rfl) rfl) A0 c0 l0 w hr0
def contains_noEl.f (l0 : List Int) : Option Bool := some (l0.any noEl)
theorem contains_noEl.calls (A0 : Option Addr) (c0 : Nat) (l0 : List Int) (r : Bool) (w : World) (hr0 : Kd.C (Kd.int .i64) w A0 l0.length l0) (hc0 : l0.length ≤ c0) (h : contains_noEl.f l0 = some r) :
    Calls Try.prog 161 #[.slice A0 l0.length c0, .func (.func 175) #[] #[]] w fun e w' => e = .returned (.bool r) ∧ Drawn0 w w' := by
  obtain rfl := Option.some.inj h
  exact contains_any says_noEl (enters_of Try.func175 (by kernel_rfl) rfl) A0 c0 l0 w hr0
def contains_long.f (l0 : List (List Int)) : Option Bool := some (l0.any isLong)
theorem contains_long.calls (A0 : Option Addr) (c0 : Nat) (l0 : List (List Int)) (r : Bool) (w : World) (hr0 : Kd.C (Kd.slice 3 (Kd.int .i64)) w A0 l0.length l0) (hc0 : l0.length ≤ c0) (h : contains_long.f l0 = some r) :
    Calls Try.prog 157 #[.slice A0 l0.length c0, .func (.func 156) #[] #[]] w fun e w' => e = .returned (.bool r) ∧ Drawn0 w w' := by
  obtain rfl := Option.some.inj h
  exact containsL_any says_long (enters_of Try.func156 (by kernel_rfl) rfl) A0 c0 l0 w hr0
end Go.Proofs.Ytdbamhckgaoibaa.P
namespace Go.Proofs.Ytdbamhckgaoibaa.P
open Go.RowKit Go.Proofs.YtdbamhckgaoibaaW.PrintWords Go.Proofs.YtdbamhckgaoibaaW.PrintLast Go.Proofs.YtdbamhckgaoibaaW.PrintMore
attribute [local go_sem] max2_int min2_int max_two min_two max_three min_three max_four min_four
set_option linter.unusedVariables false
set_option linter.unusedSimpArgs false
mutual
def program_Check.j0 : Nat → Bool → List (List Int) → List Int → Option (Int)
 | 0, _, _, _ => none
 | k + 1, x16, x116000, x116001 => if x16 = true then (some 2) else (if (x116000.length : Int) = (x116001.length : Int) then (program_Check.l0 k x116000 (x116000.length : Int) 0 x116000 x116001) else (some 230))
def program_Check.l0 : Nat → List (List Int) → Int → Int → List (List Int) → List Int → Option (Int)
 | 0, _, _, _, _, _ => none
 | k + 1, x25, x26, x27, x116000, x116001 => if x27 < x26 then (if 0 ≤ x27 then (if x27 < (x25.length : Int) then (if ((rd_L1 x25 x27).length : Int) = 0 then (some 230) else (if 0 < (x116000.length : Int) then (if ((rd_L1 x25 x27).length : Int) = ((rd_L1 x116000 0).length : Int) then (if x27 < (x116001.length : Int) then ((program_isPerson.f (rd x116001 x27)).bind fun t120 => (if t120 = true then ((contains_odd.f (rd_L1 x25 x27)).bind fun t121 => (if t121 = true then (some 230) else (program_Check.l0 k x25 x26 (wrap64 (x27 + 1)) x116000 x116001))) else (some 230))) else (none)) else (some 230)) else (none))) else (none)) else (none)) else (some 0)
end
def program_Check.f (k : Nat) (l0_0 : List (List Int)) (l0_1 : List Int) : Option (Int) := if (l0_0.length : Int) > 64 then (program_Check.j0 k true l0_0 l0_1) else ((contains_long.f l0_0).bind fun t116 => (program_Check.j0 k t116 l0_0 l0_1))
set_option maxHeartbeats 8000000 in
set_option maxRecDepth 100000 in
theorem program_Check.calls (k : Nat) (A0_0 : Option Addr) (c0_0 : Nat) (l0_0 : List (List Int)) (A0_1 : Option Addr) (c0_1 : Nat) (l0_1 : List Int) (r : Int) (w : World) (hr0_0 : Kd.C (Kd.slice 3 (Kd.int .i64)) w A0_0 l0_0.length l0_0) (hc0_0 : l0_0.length ≤ c0_0) (hr0_1 : Kd.C (Kd.int .i64) w A0_1 l0_1.length l0_1) (hc0_1 : l0_1.length ≤ c0_1) (h : program_Check.f k l0_0 l0_1 = some r) :
  Calls Try.prog 82 #[.agg #[.slice A0_0 l0_0.length c0_0, .slice A0_1 l0_1.length c0_1]] w fun e w' => e = .returned (.int .i64 r) ∧ Below w.heap.size w w' := by
 have hu25 := Try.underlying25
 have HR0_0 := Aside0.mk hr0_0
 have HC0_0 := Aside0.mk hc0_0
 clear hr0_0 hc0_0
 have HR0_1 := Aside0.mk hr0_1
 have HC0_1 := Aside0.mk hc0_1
 clear hr0_1 hc0_1
 have HB := Aside0.mk (Below.refl w.heap.size w)
 have H : (if (l0_0.length : Int) > 64 then (program_Check.j0 k true l0_0 l0_1) else ((contains_long.f l0_0).bind fun t116 => (program_Check.j0 k t116 l0_0 l0_1))) = some r := h
 clear h
 have HC2 := Aside0.mk H
 clear H
 go_enter Try.func82, Try.ntmps82
 go_upto_region 2 with (first | ((with_reducible refine gate_dst (N := 1) rfl ?_); (try (refine gate_guard (by rfl) ?_; dsimp only)); refine box_event ?hg (N := 1) ?hd (cs := #[.slice A0_0 l0_0.length c0_0, .slice A0_1 l0_1.length c0_1]) (t := 25) ?hr ?_; (case hd => rfl); (case hg => rfl); (case hr => first | (go_simp; done) | (go_simp; rfl)); intro gb115 hg w3 hbox hb; have n0_ := Aside0.mk (below_step (by repeat (first | (with_reducible first | exact HB.out | apply below_alloc | apply pw_below_drewN | apply below_drew1) | exact HB.out)) hb); have n1_ := Aside0.mk (hbox); have n2_ := Aside0.mk ((by rw [hg]; exact (below_size (by repeat (first | (with_reducible first | exact HB.out | apply below_alloc | apply pw_below_drewN | apply below_drew1) | exact HB.out))) : w.heap.size ≤ gb115)); have n3_ := Aside0.mk ((by rw [hg]; exact (below_size (by repeat (first | (with_reducible first | exact HB.out | apply below_alloc | apply pw_below_drewN | apply below_drew1) | exact HB.out))) : w.heap.size ≤ gb115)); clear HB; have HB := n0_; have BK115 := n1_; have GW115 := n2_; have GE115 := n3_; clear n0_ n1_ n2_ n3_; clear hb hbox hg))
 (try simp only [Act.put, List.setIfInBounds_toArray, List.set_cons_zero, List.set_cons_succ])
 go_cut [16] (fun v16 wc => ∃ (kq : Nat) (x16_1 : Bool), v16 = .bool x16_1 ∧ Aside0 (program_Check.j0 kq x16_1 l0_0 l0_1 = some r) ∧ Aside0 (kq ≤ k) ∧ Aside0 (wc.heap[gb115]? = some (.cells #[(.slice A0_0 l0_0.length c0_0), (.slice A0_1 l0_1.length c0_1)] 25 (0, 0))) ∧ Aside0 (Below w.heap.size w wc))
 case first =>
  have H := HC2.out
  clear HC2
  by_cases c4 : (l0_0.length : Int) > 64
  ·rw [if_pos c4] at H
   have c4b0 : decide (64 < (l0_0.length : Int)) = true := decide_eq_true c4
   have c4b1 : decide (64 < l0_0.length) = true := decide_eq_true (by omega)
   clear c4
   (first | rw [c4b0] | (simp only [i64_w, i32_w]; rw [c4b0]) | skip)
   have H' := Aside0.mk H
   clear H
   have hcz5_0 : w3.cell? ⟨gb115, 0, none⟩ = some (.slice A0_0 l0_0.length c0_0) := (blk_cell BK115.out 0).trans rfl
   have hcz5_1 : w3.cell? ⟨gb115, 1, none⟩ = some (.slice A0_1 l0_1.length c0_1) := (blk_cell BK115.out 1).trans rfl
   have hfz5_0 := blk_frozen BK115.out 0
   have hfz5_1 := blk_frozen BK115.out 1
   go_wp2
   go_meet
   case rel => exact ⟨_, (true), (by first | rfl | (simp; done) | (simp [*]; done)), H', ⟨by first | omega | exact Nat.le_refl _⟩, ⟨by (with_reducible repeat (first | refine blk_drewN ?_ _ | refine blk_drew ?_ | refine blk_alloc ?_ _)); exact BK115.out⟩, ⟨by repeat (first | (with_reducible first | exact HB.out | apply below_alloc | apply pw_below_drewN | apply below_drew1 | refine below_set ?_ GE115.out) | exact HB.out)⟩⟩
  ·rw [if_neg c4] at H
   have c4b0 : decide (64 < (l0_0.length : Int)) = false := decide_eq_false c4
   have c4b1 : decide (64 < l0_0.length) = false := decide_eq_false (by omega)
   clear c4
   (first | rw [c4b0] | (simp only [i64_w, i32_w]; rw [c4b0]) | skip)
   replace H := Option.bind_eq_some_iff.mp H
   obtain ⟨t116, A60, H⟩ := H
   replace H : (program_Check.j0 k t116 l0_0 l0_1) = some r := H
   have A6 := Aside0.mk A60
   clear A60
   have H' := Aside0.mk H
   clear H
   have hcz7_0 : w3.cell? ⟨gb115, 0, none⟩ = some (.slice A0_0 l0_0.length c0_0) := (blk_cell BK115.out 0).trans rfl
   have hcz7_1 : w3.cell? ⟨gb115, 1, none⟩ = some (.slice A0_1 l0_1.length c0_1) := (blk_cell BK115.out 1).trans rfl
   have hfz7_0 := blk_frozen BK115.out 0
   have hfz7_1 := blk_frozen BK115.out 1
   go_wp2_with (first | (go_at_call 157; (with_reducible refine (contains_long.calls _ _ l0_0  t116 _ ?side1 ?side2 A6.out).mono ?_); (case side1 => repeat (first | exact (Kd.C_below HR0_0.out HB.out) | (with_reducible refine Kd.C_alloc ?_ _) | (with_reducible refine Kd.C_drewN ?_ _) | (with_reducible refine Kd.C_drew ?_))); (case side2 => exact HC0_0.out); rintro e w' ⟨rfl, ⟨nd, rfl⟩⟩))
   go_meet
   case rel => exact ⟨_, (t116), (by first | rfl | (simp; done) | (simp [*]; done)), H', ⟨by first | omega | exact Nat.le_refl _⟩, ⟨by (with_reducible repeat (first | refine blk_drewN ?_ _ | refine blk_drew ?_ | refine blk_alloc ?_ _)); exact BK115.out⟩, ⟨by repeat (first | (with_reducible first | exact HB.out | apply below_alloc | apply pw_below_drewN | apply below_drew1 | refine below_set ?_ GE115.out) | exact HB.out)⟩⟩
 case rest =>
  clear HC2
  try clear p2
  try clear c4
  try clear c4b0
  try clear c4b1
  try clear hcz5_0
  try clear hcz5_1
  try clear hcz7_0
  try clear hcz7_1
  try clear hfz5_0
  try clear hfz5_1
  try clear hfz7_0
  try clear hfz7_1
  obtain ⟨kq, x16_1, rfl, HA, HJ1, BK115, HB⟩ := hcut
  cases kq with
  | zero => exact absurd HA.out (by simp [program_Check.j0])
  | succ kj1 =>
   have H := HA.out
   clear HA
   simp only [program_Check.j0] at H
   by_cases c8 : x16_1 = true
   ·subst c8
    have H1 : (some 2) = some r := by rw [if_pos rfl] at H; exact H
    clear H
    have H := H1
    clear H1
    obtain rfl := Option.some.inj H
    go_wp2
    go_ret
    exact ⟨by first | rfl | (simp [errW_none, errW_some] <;> rfl) | (simp [*, errW_none, errW_some] <;> rfl), by repeat (first | (with_reducible first | exact HB.out | apply below_alloc | apply pw_below_drewN | apply below_drew1 | refine below_set ?_ GE115.out) | exact HB.out)⟩
   ·replace c8 := Bool.eq_false_iff.mpr c8
    subst c8
    have H1 : (if (l0_0.length : Int) = (l0_1.length : Int) then (program_Check.l0 kj1 l0_0 (l0_0.length : Int) 0 l0_0 l0_1) else (some 230)) = some r := by rw [if_neg (show ¬ (false = true) by decide)] at H; exact H
    clear H
    have H := H1
    clear H1
    by_cases c9 : (l0_0.length : Int) = (l0_1.length : Int)
    ·rw [if_pos c9] at H
     have c9b0 : ((l0_0.length : Int) == (l0_1.length : Int)) = true := beq_iff_eq.mpr c9
     have c9b1 : ((l0_0.length : Int) != (l0_1.length : Int)) = false := bne_eq_false_iff_eq.mpr c9
     have c9b2 : (l0_0.length == l0_1.length) = true := by first | simpa using c9 | (simp at c9 ⊢; omega)
     clear c9
     have H' := Aside0.mk H
     clear H
     have hcz10_0 : wc.cell? ⟨gb115, 0, none⟩ = some (.slice A0_0 l0_0.length c0_0) := (blk_cell BK115.out 0).trans rfl
     have hcz10_1 : wc.cell? ⟨gb115, 1, none⟩ = some (.slice A0_1 l0_1.length c0_1) := (blk_cell BK115.out 1).trans rfl
     have hfz10_0 := blk_frozen BK115.out 0
     have hfz10_1 := blk_frozen BK115.out 1
     go_wp2
     go_loopg [27] kj1 (fun kq v27 w' => ∃ (x27_2 : Int), v27 = .int .i64 x27_2 ∧ Aside0 (program_Check.l0 kq l0_0 (l0_0.length : Int) x27_2 l0_0 l0_1 = some r) ∧ Aside0 (kq ≤ kj1) ∧ Aside0 (w'.heap[gb115]? = some (.cells #[(.slice A0_0 l0_0.length c0_0), (.slice A0_1 l0_1.length c0_1)] 25 (0, 0))) ∧ Aside0 (Below w.heap.size w w'))
     case atStart => exact ⟨(0), (by first | rfl | (simp; done) | (simp [*]; done)), H', ⟨Nat.le_refl _⟩, ⟨by (with_reducible repeat (first | refine blk_drewN ?_ _ | refine blk_drew ?_ | refine blk_alloc ?_ _)); exact BK115.out⟩, ⟨by repeat (first | (with_reducible first | exact HB.out | apply below_alloc | apply pw_below_drewN | apply below_drew1 | refine below_set ?_ GE115.out) | exact HB.out)⟩⟩
     case round =>
      clear H'
      try clear p2
      try clear c4
      try clear c4b0
      try clear c4b1
      try clear c8
      try clear c9
      try clear c9b0
      try clear c9b1
      try clear c9b2
      try clear hcz10_0
      try clear hcz10_1
      try clear hcz5_0
      try clear hcz5_1
      try clear hcz7_0
      try clear hcz7_1
      try clear hfz10_0
      try clear hfz10_1
      try clear hfz5_0
      try clear hfz5_1
      try clear hfz7_0
      try clear hfz7_1
      try clear p2
      obtain ⟨x27_2, rfl, HA, HK2, BK115, HB⟩ := hrel
      cases gk with
      | zero => exact absurd HA.out (by simp [program_Check.l0])
      | succ k2 =>
       have H := HA.out
       clear HA
       simp only [program_Check.l0] at H
       by_cases c11 : x27_2 < (l0_0.length : Int)
       ·rw [if_pos c11] at H
        have c11b0 : decide (x27_2 < (l0_0.length : Int)) = true := decide_eq_true c11
        clear c11
        by_cases c12 : 0 ≤ x27_2
        ·rw [if_pos c12] at H
         have c12b0 : decide (0 ≤ x27_2) = true := decide_eq_true c12
         clear c12
         by_cases c13 : x27_2 < (l0_0.length : Int)
         ·rw [if_pos c13] at H
          have c13b0 : decide (x27_2 < (l0_0.length : Int)) = true := decide_eq_true c13
          clear c13
          by_cases c14 : ((rd_L1 l0_0 x27_2).length : Int) = 0
          ·rw [if_pos c14] at H
           have c14b0 : (((rd_L1 l0_0 x27_2).length : Int) == 0) = true := beq_iff_eq.mpr c14
           have c14b1 : (((rd_L1 l0_0 x27_2).length : Int) != 0) = false := bne_eq_false_iff_eq.mpr c14
           clear c14
           obtain rfl := Option.some.inj H
           have p117 : 0 ≤ (x27_2 : Int) := of_decide_eq_true (by first | (with_reducible assumption) | assumption)
           have q117 : x27_2 < (l0_0.length : Int) := of_decide_eq_true (by first | (with_reducible assumption) | assumption)
           obtain ⟨ad117, A117_0, c117_0, e117, hx117_0, hl117_0, hi117_0⟩ := at_L1 HR0_0.out x27_2 p117 q117
           cases e117
           replace hx117_0 := (HB.out.cell (World.block_lt_of_cell? w _ hx117_0)).trans hx117_0
           have HR117_0 := Aside0.mk hi117_0
           have HC117_0 := Aside0.mk hl117_0
           clear hi117_0 hl117_0
           replace p117 := eq_true p117
           replace q117 := eq_true q117
           go_wp2
           go_ret
           exact ⟨by first | rfl | (simp [errW_none, errW_some] <;> rfl) | (simp [*, errW_none, errW_some] <;> rfl), by repeat (first | (with_reducible first | exact HB.out | apply below_alloc | apply pw_below_drewN | apply below_drew1 | refine below_set ?_ GE115.out) | exact HB.out)⟩
          ·rw [if_neg c14] at H
           have c14b0 : (((rd_L1 l0_0 x27_2).length : Int) == 0) = false := beq_eq_false_iff_ne.mpr c14
           have c14b1 : (((rd_L1 l0_0 x27_2).length : Int) != 0) = true := bne_iff_ne.mpr c14
           have c14b2 : ¬ ((rd_L1 l0_0 x27_2) = []) := fun h_ => c14 (by rw [h_]; rfl)
           by_cases c15 : 0 < (l0_0.length : Int)
           ·rw [if_pos c15] at H
            have c15b0 : decide (0 < (l0_0.length : Int)) = true := decide_eq_true c15
            have c15b1 : decide (0 < l0_0.length) = true := decide_eq_true (by omega)
            clear c15
            by_cases c16 : ((rd_L1 l0_0 x27_2).length : Int) = ((rd_L1 l0_0 0).length : Int)
            ·rw [if_pos c16] at H
             have c16b0 : (((rd_L1 l0_0 x27_2).length : Int) == ((rd_L1 l0_0 0).length : Int)) = true := beq_iff_eq.mpr c16
             have c16b1 : (((rd_L1 l0_0 x27_2).length : Int) != ((rd_L1 l0_0 0).length : Int)) = false := bne_eq_false_iff_eq.mpr c16
             have c16b2 : ((rd_L1 l0_0 x27_2).length == (rd_L1 l0_0 0).length) = true := by first | simpa using c16 | (simp at c16 ⊢; omega)
             clear c16
             by_cases c17 : x27_2 < (l0_1.length : Int)
             ·rw [if_pos c17] at H
              have c17b0 : decide (x27_2 < (l0_1.length : Int)) = true := decide_eq_true c17
              clear c17
              replace H := Option.bind_eq_some_iff.mp H
              obtain ⟨t120, A180, H⟩ := H
              replace H : (if t120 = true then ((contains_odd.f (rd_L1 l0_0 x27_2)).bind fun t121 => (if t121 = true then (some 230) else (program_Check.l0 k2 l0_0 (l0_0.length : Int) (wrap64 (x27_2 + 1)) l0_0 l0_1))) else (some 230)) = some r := H
              have A18 := Aside0.mk A180
              clear A180
              by_cases c19 : t120 = true
              ·subst c19
               have H1 : ((contains_odd.f (rd_L1 l0_0 x27_2)).bind fun t121 => (if t121 = true then (some 230) else (program_Check.l0 k2 l0_0 (l0_0.length : Int) (wrap64 (x27_2 + 1)) l0_0 l0_1))) = some r := by rw [if_pos rfl] at H; exact H
               clear H
               have H := H1
               clear H1
               replace H := Option.bind_eq_some_iff.mp H
               obtain ⟨t121, A200, H⟩ := H
               replace H : (if t121 = true then (some 230) else (program_Check.l0 k2 l0_0 (l0_0.length : Int) (wrap64 (x27_2 + 1)) l0_0 l0_1)) = some r := H
               have A20 := Aside0.mk A200
               clear A200
               by_cases c21 : t121 = true
               ·subst c21
                have H1 : (some 230) = some r := by rw [if_pos rfl] at H; exact H
                clear H
                have H := H1
                clear H1
                obtain rfl := Option.some.inj H
                have p117 : 0 ≤ (x27_2 : Int) := of_decide_eq_true (by first | (with_reducible assumption) | assumption)
                have q117 : x27_2 < (l0_0.length : Int) := of_decide_eq_true (by first | (with_reducible assumption) | assumption)
                obtain ⟨ad117, A117_0, c117_0, e117, hx117_0, hl117_0, hi117_0⟩ := at_L1 HR0_0.out x27_2 p117 q117
                cases e117
                replace hx117_0 := (HB.out.cell (World.block_lt_of_cell? w _ hx117_0)).trans hx117_0
                have HR117_0 := Aside0.mk hi117_0
                have HC117_0 := Aside0.mk hl117_0
                clear hi117_0 hl117_0
                replace p117 := eq_true p117
                replace q117 := eq_true q117
                have hcz22_0 : wr.cell? ⟨gb115, 0, none⟩ = some (.slice (some ad117) l0_0.length c0_0) := (blk_cell BK115.out 0).trans rfl
                have hcz22_1 : wr.cell? ⟨gb115, 1, none⟩ = some (.slice A0_1 l0_1.length c0_1) := (blk_cell BK115.out 1).trans rfl
                have hfz22_0 := blk_frozen BK115.out 0
                have hfz22_1 := blk_frozen BK115.out 1
                have p118 : 0 ≤ (0 : Int) := (by omega)
                have q118 : 0 < (l0_0.length : Int) := of_decide_eq_true (by first | (with_reducible assumption) | assumption)
                obtain ⟨ad118, A118_0, c118_0, e118, hx118_0, hl118_0, hi118_0⟩ := at_L1 HR0_0.out 0 p118 q118
                obtain rfl : ad117 = ad118 := (by injection e118)
                have qi118 : (0 < l0_0.length) = True := eq_true (by omega)
                (try rw [show ((0 : Int)).toNat = 0 from rfl] at hx118_0)
                (try rw [Addr.add_zero'] at hx118_0)
                replace hx118_0 := (HB.out.cell (World.block_lt_of_cell? w _ hx118_0)).trans hx118_0
                have HR118_0 := Aside0.mk hi118_0
                have HC118_0 := Aside0.mk hl118_0
                clear hi118_0 hl118_0
                replace p118 := eq_true p118
                replace q118 := eq_true q118
                have p119 : 0 ≤ (x27_2 : Int) := of_decide_eq_true (by first | (with_reducible assumption) | assumption)
                have q119 : x27_2 < (l0_1.length : Int) := of_decide_eq_true (by first | (with_reducible assumption) | assumption)
                obtain ⟨ad119, e119, hx119_0⟩ := Kd.at_int HR0_1.out x27_2 p119 q119
                cases e119
                replace hx119_0 := (HB.out.cell (World.block_lt_of_cell? w _ hx119_0)).trans hx119_0
                replace p119 := eq_true p119
                replace q119 := eq_true q119
                go_wp2_with (first | (go_at_call 160; (with_reducible refine (program_isPerson.calls (rd l0_1 x27_2) true _ A18.out).mono ?_); rintro e w' ⟨rfl, ⟨nd, rfl⟩⟩) | (go_at_call 161; (with_reducible refine (contains_odd.calls _ _ (rd_L1 l0_0 x27_2)  true _ ?side1 ?side2 A20.out).mono ?_); (case side1 => repeat (first | exact (Kd.C_below HR117_0.out (by repeat (first | (with_reducible first | exact HB.out | apply below_alloc | apply pw_below_drewN | apply below_drew1 | refine below_set ?_ GE115.out) | exact HB.out))) | (with_reducible refine Kd.C_alloc ?_ _) | (with_reducible refine Kd.C_drewN ?_ _) | (with_reducible refine Kd.C_drew ?_))); (case side2 => exact HC117_0.out); rintro e w' ⟨rfl, ⟨nd, rfl⟩⟩))
                go_ret
                exact ⟨by first | rfl | (simp [errW_none, errW_some] <;> rfl) | (simp [*, errW_none, errW_some] <;> rfl), by repeat (first | (with_reducible first | exact HB.out | apply below_alloc | apply pw_below_drewN | apply below_drew1 | refine below_set ?_ GE115.out) | exact HB.out)⟩
               ·replace c21 := Bool.eq_false_iff.mpr c21
                subst c21
                have H1 : (program_Check.l0 k2 l0_0 (l0_0.length : Int) (wrap64 (x27_2 + 1)) l0_0 l0_1) = some r := by rw [if_neg (show ¬ (false = true) by decide)] at H; exact H
                clear H
                have H := H1
                clear H1
                have H' := Aside0.mk H
                clear H
                have p117 : 0 ≤ (x27_2 : Int) := of_decide_eq_true (by first | (with_reducible assumption) | assumption)
                have q117 : x27_2 < (l0_0.length : Int) := of_decide_eq_true (by first | (with_reducible assumption) | assumption)
                obtain ⟨ad117, A117_0, c117_0, e117, hx117_0, hl117_0, hi117_0⟩ := at_L1 HR0_0.out x27_2 p117 q117
                cases e117
                replace hx117_0 := (HB.out.cell (World.block_lt_of_cell? w _ hx117_0)).trans hx117_0
                have HR117_0 := Aside0.mk hi117_0
                have HC117_0 := Aside0.mk hl117_0
                clear hi117_0 hl117_0
                replace p117 := eq_true p117
                replace q117 := eq_true q117
                have hcz23_0 : wr.cell? ⟨gb115, 0, none⟩ = some (.slice (some ad117) l0_0.length c0_0) := (blk_cell BK115.out 0).trans rfl
                have hcz23_1 : wr.cell? ⟨gb115, 1, none⟩ = some (.slice A0_1 l0_1.length c0_1) := (blk_cell BK115.out 1).trans rfl
                have hfz23_0 := blk_frozen BK115.out 0
                have hfz23_1 := blk_frozen BK115.out 1
                have p118 : 0 ≤ (0 : Int) := (by omega)
                have q118 : 0 < (l0_0.length : Int) := of_decide_eq_true (by first | (with_reducible assumption) | assumption)
                obtain ⟨ad118, A118_0, c118_0, e118, hx118_0, hl118_0, hi118_0⟩ := at_L1 HR0_0.out 0 p118 q118
                obtain rfl : ad117 = ad118 := (by injection e118)
                have qi118 : (0 < l0_0.length) = True := eq_true (by omega)
                (try rw [show ((0 : Int)).toNat = 0 from rfl] at hx118_0)
                (try rw [Addr.add_zero'] at hx118_0)
                replace hx118_0 := (HB.out.cell (World.block_lt_of_cell? w _ hx118_0)).trans hx118_0
                have HR118_0 := Aside0.mk hi118_0
                have HC118_0 := Aside0.mk hl118_0
                clear hi118_0 hl118_0
                replace p118 := eq_true p118
                replace q118 := eq_true q118
                have p119 : 0 ≤ (x27_2 : Int) := of_decide_eq_true (by first | (with_reducible assumption) | assumption)
                have q119 : x27_2 < (l0_1.length : Int) := of_decide_eq_true (by first | (with_reducible assumption) | assumption)
                obtain ⟨ad119, e119, hx119_0⟩ := Kd.at_int HR0_1.out x27_2 p119 q119
                cases e119
                replace hx119_0 := (HB.out.cell (World.block_lt_of_cell? w _ hx119_0)).trans hx119_0
                replace p119 := eq_true p119
                replace q119 := eq_true q119
                go_wp2_with (first | (go_at_call 160; (with_reducible refine (program_isPerson.calls (rd l0_1 x27_2) true _ A18.out).mono ?_); rintro e w' ⟨rfl, ⟨nd, rfl⟩⟩) | (go_at_call 161; (with_reducible refine (contains_odd.calls _ _ (rd_L1 l0_0 x27_2)  false _ ?side1 ?side2 A20.out).mono ?_); (case side1 => repeat (first | exact (Kd.C_below HR117_0.out (by repeat (first | (with_reducible first | exact HB.out | apply below_alloc | apply pw_below_drewN | apply below_drew1 | refine below_set ?_ GE115.out) | exact HB.out))) | (with_reducible refine Kd.C_alloc ?_ _) | (with_reducible refine Kd.C_drewN ?_ _) | (with_reducible refine Kd.C_drew ?_))); (case side2 => exact HC117_0.out); rintro e w' ⟨rfl, ⟨nd, rfl⟩⟩))
                go_roundg k2
                case measure => have := HJ1.out; have := HK2.out; omega
                case rel => exact ⟨(wrap64 (x27_2 + 1)), (by first | rfl | (simp; done) | (simp [*]; done)), H', ⟨by have := HJ1.out; have := HK2.out; omega⟩, ⟨by (with_reducible repeat (first | refine blk_drewN ?_ _ | refine blk_drew ?_ | refine blk_alloc ?_ _)); exact BK115.out⟩, ⟨by repeat (first | (with_reducible first | exact HB.out | apply below_alloc | apply pw_below_drewN | apply below_drew1 | refine below_set ?_ GE115.out) | exact HB.out)⟩⟩
              ·replace c19 := Bool.eq_false_iff.mpr c19
               subst c19
               have H1 : (some 230) = some r := by rw [if_neg (show ¬ (false = true) by decide)] at H; exact H
               clear H
               have H := H1
               clear H1
               obtain rfl := Option.some.inj H
               have p117 : 0 ≤ (x27_2 : Int) := of_decide_eq_true (by first | (with_reducible assumption) | assumption)
               have q117 : x27_2 < (l0_0.length : Int) := of_decide_eq_true (by first | (with_reducible assumption) | assumption)
               obtain ⟨ad117, A117_0, c117_0, e117, hx117_0, hl117_0, hi117_0⟩ := at_L1 HR0_0.out x27_2 p117 q117
               cases e117
               replace hx117_0 := (HB.out.cell (World.block_lt_of_cell? w _ hx117_0)).trans hx117_0
               have HR117_0 := Aside0.mk hi117_0
               have HC117_0 := Aside0.mk hl117_0
               clear hi117_0 hl117_0
               replace p117 := eq_true p117
               replace q117 := eq_true q117
               have hcz24_0 : wr.cell? ⟨gb115, 0, none⟩ = some (.slice (some ad117) l0_0.length c0_0) := (blk_cell BK115.out 0).trans rfl
               have hcz24_1 : wr.cell? ⟨gb115, 1, none⟩ = some (.slice A0_1 l0_1.length c0_1) := (blk_cell BK115.out 1).trans rfl
               have hfz24_0 := blk_frozen BK115.out 0
               have hfz24_1 := blk_frozen BK115.out 1
               have p118 : 0 ≤ (0 : Int) := (by omega)
               have q118 : 0 < (l0_0.length : Int) := of_decide_eq_true (by first | (with_reducible assumption) | assumption)
               obtain ⟨ad118, A118_0, c118_0, e118, hx118_0, hl118_0, hi118_0⟩ := at_L1 HR0_0.out 0 p118 q118
               obtain rfl : ad117 = ad118 := (by injection e118)
               have qi118 : (0 < l0_0.length) = True := eq_true (by omega)
               (try rw [show ((0 : Int)).toNat = 0 from rfl] at hx118_0)
               (try rw [Addr.add_zero'] at hx118_0)
               replace hx118_0 := (HB.out.cell (World.block_lt_of_cell? w _ hx118_0)).trans hx118_0
               have HR118_0 := Aside0.mk hi118_0
               have HC118_0 := Aside0.mk hl118_0
               clear hi118_0 hl118_0
               replace p118 := eq_true p118
               replace q118 := eq_true q118
               have p119 : 0 ≤ (x27_2 : Int) := of_decide_eq_true (by first | (with_reducible assumption) | assumption)
               have q119 : x27_2 < (l0_1.length : Int) := of_decide_eq_true (by first | (with_reducible assumption) | assumption)
               obtain ⟨ad119, e119, hx119_0⟩ := Kd.at_int HR0_1.out x27_2 p119 q119
               cases e119
               replace hx119_0 := (HB.out.cell (World.block_lt_of_cell? w _ hx119_0)).trans hx119_0
               replace p119 := eq_true p119
               replace q119 := eq_true q119
               go_wp2_with (first | (go_at_call 160; (with_reducible refine (program_isPerson.calls (rd l0_1 x27_2) false _ A18.out).mono ?_); rintro e w' ⟨rfl, ⟨nd, rfl⟩⟩))
               go_ret
               exact ⟨by first | rfl | (simp [errW_none, errW_some] <;> rfl) | (simp [*, errW_none, errW_some] <;> rfl), by repeat (first | (with_reducible first | exact HB.out | apply below_alloc | apply pw_below_drewN | apply below_drew1 | refine below_set ?_ GE115.out) | exact HB.out)⟩
             ·rw [if_neg c17] at H
              exact absurd H (by simp)
            ·rw [if_neg c16] at H
             have c16b0 : (((rd_L1 l0_0 x27_2).length : Int) == ((rd_L1 l0_0 0).length : Int)) = false := beq_eq_false_iff_ne.mpr c16
             have c16b1 : (((rd_L1 l0_0 x27_2).length : Int) != ((rd_L1 l0_0 0).length : Int)) = true := bne_iff_ne.mpr c16
             have c16b2 : ((rd_L1 l0_0 x27_2).length == (rd_L1 l0_0 0).length) = false := by first | simpa using c16 | (simp at c16 ⊢; omega)
             obtain rfl := Option.some.inj H
             have p117 : 0 ≤ (x27_2 : Int) := of_decide_eq_true (by first | (with_reducible assumption) | assumption)
             have q117 : x27_2 < (l0_0.length : Int) := of_decide_eq_true (by first | (with_reducible assumption) | assumption)
             obtain ⟨ad117, A117_0, c117_0, e117, hx117_0, hl117_0, hi117_0⟩ := at_L1 HR0_0.out x27_2 p117 q117
             cases e117
             replace hx117_0 := (HB.out.cell (World.block_lt_of_cell? w _ hx117_0)).trans hx117_0
             have HR117_0 := Aside0.mk hi117_0
             have HC117_0 := Aside0.mk hl117_0
             clear hi117_0 hl117_0
             replace p117 := eq_true p117
             replace q117 := eq_true q117
             have hcz25_0 : wr.cell? ⟨gb115, 0, none⟩ = some (.slice (some ad117) l0_0.length c0_0) := (blk_cell BK115.out 0).trans rfl
             have hcz25_1 : wr.cell? ⟨gb115, 1, none⟩ = some (.slice A0_1 l0_1.length c0_1) := (blk_cell BK115.out 1).trans rfl
             have hfz25_0 := blk_frozen BK115.out 0
             have hfz25_1 := blk_frozen BK115.out 1
             have p118 : 0 ≤ (0 : Int) := (by omega)
             have q118 : 0 < (l0_0.length : Int) := of_decide_eq_true (by first | (with_reducible assumption) | assumption)
             obtain ⟨ad118, A118_0, c118_0, e118, hx118_0, hl118_0, hi118_0⟩ := at_L1 HR0_0.out 0 p118 q118
             obtain rfl : ad117 = ad118 := (by injection e118)
             have qi118 : (0 < l0_0.length) = True := eq_true (by omega)
             (try rw [show ((0 : Int)).toNat = 0 from rfl] at hx118_0)
             (try rw [Addr.add_zero'] at hx118_0)
             replace hx118_0 := (HB.out.cell (World.block_lt_of_cell? w _ hx118_0)).trans hx118_0
             have HR118_0 := Aside0.mk hi118_0
             have HC118_0 := Aside0.mk hl118_0
             clear hi118_0 hl118_0
             replace p118 := eq_true p118
             replace q118 := eq_true q118
             go_wp2
             go_ret
             exact ⟨by first | rfl | (simp [errW_none, errW_some] <;> rfl) | (simp [*, errW_none, errW_some] <;> rfl), by repeat (first | (with_reducible first | exact HB.out | apply below_alloc | apply pw_below_drewN | apply below_drew1 | refine below_set ?_ GE115.out) | exact HB.out)⟩
           ·rw [if_neg c15] at H
            exact absurd H (by simp)
         ·rw [if_neg c13] at H
          exact absurd H (by simp)
        ·rw [if_neg c12] at H
         exact absurd H (by simp)
       ·rw [if_neg c11] at H
        have c11b0 : decide (x27_2 < (l0_0.length : Int)) = false := decide_eq_false c11
        clear c11
        obtain rfl := Option.some.inj H
        go_wp2
        go_ret
        exact ⟨by first | rfl | (simp [errW_none, errW_some] <;> rfl) | (simp [*, errW_none, errW_some] <;> rfl), by repeat (first | (with_reducible first | exact HB.out | apply below_alloc | apply pw_below_drewN | apply below_drew1 | refine below_set ?_ GE115.out) | exact HB.out)⟩
    ·rw [if_neg c9] at H
     have c9b0 : ((l0_0.length : Int) == (l0_1.length : Int)) = false := beq_eq_false_iff_ne.mpr c9
     have c9b1 : ((l0_0.length : Int) != (l0_1.length : Int)) = true := bne_iff_ne.mpr c9
     have c9b2 : (l0_0.length == l0_1.length) = false := by first | simpa using c9 | (simp at c9 ⊢; omega)
     obtain rfl := Option.some.inj H
     have hcz26_0 : wc.cell? ⟨gb115, 0, none⟩ = some (.slice A0_0 l0_0.length c0_0) := (blk_cell BK115.out 0).trans rfl
     have hcz26_1 : wc.cell? ⟨gb115, 1, none⟩ = some (.slice A0_1 l0_1.length c0_1) := (blk_cell BK115.out 1).trans rfl
     have hfz26_0 := blk_frozen BK115.out 0
     have hfz26_1 := blk_frozen BK115.out 1
     go_wp2
     go_ret
     exact ⟨by first | rfl | (simp [errW_none, errW_some] <;> rfl) | (simp [*, errW_none, errW_some] <;> rfl), by repeat (first | (with_reducible first | exact HB.out | apply below_alloc | apply pw_below_drewN | apply below_drew1 | refine below_set ?_ GE115.out) | exact HB.out)⟩
def dealing_numbers.f (l0 : List Int) : Option (Bool) := (contains_outQ.f l0).bind fun t122 => (some (!t122))
set_option maxHeartbeats 8000000 in
set_option maxRecDepth 100000 in
theorem dealing_numbers.calls (A0 : Option Addr) (c0 : Nat) (l0 : List Int) (r : Bool) (w : World) (hr0 : Kd.C (Kd.int .i64) w A0 l0.length l0) (hc0 : l0.length ≤ c0) (h : dealing_numbers.f l0 = some r) :
  Calls Try.prog 83 #[.slice A0 l0.length c0] w fun e w' => e = .returned (.bool r) ∧ Drawn0 w w' := by
 have HR0 := Aside0.mk hr0
 have HC0 := Aside0.mk hc0
 clear hr0 hc0
 have H : ((contains_outQ.f l0).bind fun t122 => (some (!t122))) = some r := h
 clear h
 replace H := Option.bind_eq_some_iff.mp H
 obtain ⟨t122, A20, H⟩ := H
 replace H : (some (!t122)) = some r := H
 have A2 := Aside0.mk A20
 clear A20
 obtain rfl := Option.some.inj H
 go_enter Try.func83, Try.ntmps83
 go_wp2_with (first | ((with_reducible refine gate_callee (f := 161) rfl ?_); refine goesL_ (some 4) rfl rfl Try.func161 (by kernel_rfl) rfl #[.slice A0 l0.length c0, .func (.func 162) #[] #[]] rfl (by (try simp only [List.map_toArray, List.map_cons, List.map_nil]); first | done | rfl | (simp only [List.length_drop, List.length_take]; rfl)) ?_; (with_reducible refine (contains_outQ.calls _ _ l0  t122 _ ?side1 ?side2 A2.out).mono ?_); (case side1 => repeat (first | exact HR0.out | (with_reducible refine Kd.C_alloc ?_ _) | (with_reducible refine Kd.C_drewN ?_ _) | (with_reducible refine Kd.C_drew ?_))); (case side2 => exact HC0.out); rintro e w' ⟨rfl, ⟨nd, rfl⟩⟩; refine ⟨_, rfl, ?_⟩))
 go_ret
 exact ⟨by first | rfl | (simp; done) | (simp [*]; done), by repeat (first | exact Drawn0.refl _ | apply Drawn0.step)⟩
def group_Mul.f (a0 : Int) (a1 : Int) : Option (Int × Int) := (group_Valid.f a0).bind fun t113 => (if t113 = true then ((group_Valid.f a1).bind fun t114 => (if t114 = true then (some (Int.tmod (wrap64 (a0 * a1)) 2147483579, 0)) else (some (0, 100)))) else (some (0, 100)))
set_option maxHeartbeats 8000000 in
set_option maxRecDepth 100000 in
theorem group_Mul.calls (a0 : Int) (a1 : Int) (r1 : Int) (r2 : Int) (w : World) (h : group_Mul.f a0 a1 = some (r1, r2)) :
  Calls Try.prog 37 #[.int .i64 a0, .int .i64 a1] w fun e w' => e = .returned (.tuple #[.int .i64 r1, .int .i64 r2]) ∧ Drawn0 w w' := by
 have H : ((group_Valid.f a0).bind fun t113 => (if t113 = true then ((group_Valid.f a1).bind fun t114 => (if t114 = true then (some (Int.tmod (wrap64 (a0 * a1)) 2147483579, 0)) else (some (0, 100)))) else (some (0, 100)))) = some (r1, r2) := h
 clear h
 replace H := Option.bind_eq_some_iff.mp H
 obtain ⟨t113, A30, H⟩ := H
 replace H : (if t113 = true then ((group_Valid.f a1).bind fun t114 => (if t114 = true then (some (Int.tmod (wrap64 (a0 * a1)) 2147483579, 0)) else (some (0, 100)))) else (some (0, 100))) = some (r1, r2) := H
 have A3 := Aside0.mk A30
 clear A30
 by_cases c4 : t113 = true
 ·subst c4
  have H1 : ((group_Valid.f a1).bind fun t114 => (if t114 = true then (some (Int.tmod (wrap64 (a0 * a1)) 2147483579, 0)) else (some (0, 100)))) = some (r1, r2) := by rw [if_pos rfl] at H; exact H
  clear H
  have H := H1
  clear H1
  replace H := Option.bind_eq_some_iff.mp H
  obtain ⟨t114, A50, H⟩ := H
  replace H : (if t114 = true then (some (Int.tmod (wrap64 (a0 * a1)) 2147483579, 0)) else (some (0, 100))) = some (r1, r2) := H
  have A5 := Aside0.mk A50
  clear A50
  by_cases c6 : t114 = true
  ·subst c6
   have H1 : (some (Int.tmod (wrap64 (a0 * a1)) 2147483579, 0)) = some (r1, r2) := by rw [if_pos rfl] at H; exact H
   clear H
   have H := H1
   clear H1
   simp only [Option.some.injEq, Prod.mk.injEq] at H
   obtain ⟨rfl, rfl⟩ := H
   go_enter Try.func37, Try.ntmps37
   go_wp2_with (first | ((with_reducible refine gate_callee (f := 104) rfl ?_); refine goesL_ (some 7) rfl rfl Try.func104 (by kernel_rfl) rfl #[.int .i64 a0] rfl (by (try simp only [List.map_toArray, List.map_cons, List.map_nil]); first | done | rfl | (simp only [List.length_drop, List.length_take]; rfl)) ?_; (with_reducible refine (group_Valid.calls a0 true _ A3.out).mono ?_); rintro e w' ⟨rfl, ⟨nd, rfl⟩⟩; refine ⟨_, rfl, ?_⟩) | (go_at_call 104; (with_reducible refine (group_Valid.calls a1 true _ A5.out).mono ?_); rintro e w' ⟨rfl, ⟨nd, rfl⟩⟩))
   go_ret2
   exact ⟨by first | rfl | (simp; done) | (simp [*]; done), by repeat (first | exact Drawn0.refl _ | apply Drawn0.step)⟩
  ·replace c6 := Bool.eq_false_iff.mpr c6
   subst c6
   have H1 : (some (0, 100)) = some (r1, r2) := by rw [if_neg (show ¬ (false = true) by decide)] at H; exact H
   clear H
   have H := H1
   clear H1
   simp only [Option.some.injEq, Prod.mk.injEq] at H
   obtain ⟨rfl, rfl⟩ := H
   go_enter Try.func37, Try.ntmps37
   go_wp2_with (first | ((with_reducible refine gate_callee (f := 104) rfl ?_); refine goesL_ (some 7) rfl rfl Try.func104 (by kernel_rfl) rfl #[.int .i64 a0] rfl (by (try simp only [List.map_toArray, List.map_cons, List.map_nil]); first | done | rfl | (simp only [List.length_drop, List.length_take]; rfl)) ?_; (with_reducible refine (group_Valid.calls a0 true _ A3.out).mono ?_); rintro e w' ⟨rfl, ⟨nd, rfl⟩⟩; refine ⟨_, rfl, ?_⟩) | (go_at_call 104; (with_reducible refine (group_Valid.calls a1 false _ A5.out).mono ?_); rintro e w' ⟨rfl, ⟨nd, rfl⟩⟩))
   go_ret2
   exact ⟨by first | rfl | (simp; done) | (simp [*]; done), by repeat (first | exact Drawn0.refl _ | apply Drawn0.step)⟩
 ·replace c4 := Bool.eq_false_iff.mpr c4
  subst c4
  have H1 : (some (0, 100)) = some (r1, r2) := by rw [if_neg (show ¬ (false = true) by decide)] at H; exact H
  clear H
  have H := H1
  clear H1
  simp only [Option.some.injEq, Prod.mk.injEq] at H
  obtain ⟨rfl, rfl⟩ := H
  go_enter Try.func37, Try.ntmps37
  go_wp2_with (first | ((with_reducible refine gate_callee (f := 104) rfl ?_); refine goesL_ (some 7) rfl rfl Try.func104 (by kernel_rfl) rfl #[.int .i64 a0] rfl (by (try simp only [List.map_toArray, List.map_cons, List.map_nil]); first | done | rfl | (simp only [List.length_drop, List.length_take]; rfl)) ?_; (with_reducible refine (group_Valid.calls a0 false _ A3.out).mono ?_); rintro e w' ⟨rfl, ⟨nd, rfl⟩⟩; refine ⟨_, rfl, ?_⟩))
  go_ret2
  exact ⟨by first | rfl | (simp; done) | (simp [*]; done), by repeat (first | exact Drawn0.refl _ | apply Drawn0.step)⟩
end Go.Proofs.Ytdbamhckgaoibaa.P
namespace Go.Proofs.Ytdbamhckgaoibaa.P
open Go.RowKit Go.Proofs.YtdbamhckgaoibaaW.PrintWords Go.Proofs.YtdbamhckgaoibaaW.PrintLast Go.Proofs.YtdbamhckgaoibaaW.PrintMore
attribute [local go_sem] max2_int min2_int max_two min_two max_three min_three max_four min_four
set_option linter.unusedVariables false
set_option linter.unusedSimpArgs false
mutual
def linear_turned.l0 : Nat → List (List Int) → List (List Int) → List Int → Int → Int → Option ((List (List Int)))
 | 0, _, _, _, _, _ => none
 | k + 1, x0, x5, x13, x14, x15 => if x15 < x14 then (if 0 ≤ x15 then (if x15 < (x13.length : Int) then (linear_turned.l1 k x0 x5 x15 (rd x13 x15) x13 x14 x15 x0 (x0.length : Int) 0) else (none)) else (none)) else (some x5)
def linear_turned.l1 : Nat → List (List Int) → List (List Int) → Int → Int → List Int → Int → Int → List (List Int) → Int → Int → Option ((List (List Int)))
 | 0, _, _, _, _, _, _, _, _, _, _ => none
 | k + 1, x0, x5, x6, x7, x13, x14, x15, x20, x21, x22 => if x22 < x21 then (if 0 ≤ x22 then (if x22 < (x20.length : Int) then (if 0 ≤ x6 then (if x6 < (x5.length : Int) then (if x6 < ((rd_L1 x20 x22).length : Int) then (if (rd_L1 x5 x6).length < 17592186044416 then (linear_turned.l1 k x0 (x5.set (x6 : Int).toNat ((rd_L1 x5 x6) ++ [rd (rd_L1 x20 x22) x6])) x6 x7 x13 x14 x15 x20 x21 (wrap64 (x22 + 1))) else (none)) else (none)) else (none)) else (none)) else (none)) else (none)) else (if 0 ≤ x6 then (if x6 < (x5.length : Int) then (if (rd_L1 x5 x6).length < 17592186044416 then (linear_turned.l0 k x0 (x5.set (x6 : Int).toNat ((rd_L1 x5 x6) ++ [x7])) x13 x14 (wrap64 (x15 + 1))) else (none)) else (none)) else (none))
end
def linear_turned.f (k : Nat) (l0 : List (List Int)) (l1 : List Int) : Option ((List (List Int))) := if 0 ≤ (l1.length : Int) then (if ((l1.length : Int) : Int).toNat ≤ 11728124029610 then (linear_turned.l0 k l0 (List.replicate ((l1.length : Int) : Int).toNat []) l1 (l1.length : Int) 0) else (none)) else (none)
def linear_turned.T8 : Bool × List (List Nat × List Nat) := (true, [([], []), ([], []), ([], []), ([], []), ([2, 3], [2, 3]), ([4], [4]), ([], []), ([], []), ([6, 7], [6, 7]), ([8], [8]), ([9], [9]), ([5, 10], [5, 10]), ([0, 1, 0, 1, 2, 3, 4, 5, 6, 7, 8, 9, 10, 11], [0, 1]), ([12, 11, 11, 0, 1, 2, 3, 4, 5, 6, 7, 8, 9, 10, 11], [11, 12])])
def linear_turned.B8 : List Nat := [0, 0, 0, 0, 12, 28, 0, 0, 192, 448, 960, 2044, 4095, 8191]
theorem linear_turned.tab8 : rtab .any (opsOf Try.f169 8) = linear_turned.T8 := by kernel_rfl
theorem linear_turned.bits8 : waitsOk linear_turned.T8.2 linear_turned.B8 = true := by kernel_rfl
set_option maxHeartbeats 8000000 in
set_option maxRecDepth 100000 in
theorem linear_turned.calls (k : Nat) (A0 : Option Addr) (c0 : Nat) (l0 : List (List Int)) (A1 : Option Addr) (c1 : Nat) (l1 : List Int) (r : List (List Int)) (w : World) (hr0 : Kd.C (Kd.slice 3 (Kd.int .i64)) w A0 l0.length l0) (hc0 : l0.length ≤ c0) (hr1 : Kd.C (Kd.int .i64) w A1 l1.length l1) (hc1 : l1.length ≤ c1) (h : linear_turned.f k l0 l1 = some r) :
  Calls Try.prog 169 #[.slice A0 l0.length c0, .slice A1 l1.length c1] w fun e w' => ∃ v0_ : Value, e = .returned (v0_) ∧ Kd.S (Kd.slice 3 (Kd.int .i64)) 23 w' w.heap.size (fun _ => True) v0_ r ∧ Below w.heap.size w w' := by
 have HR0 := Aside0.mk hr0
 have HC0 := Aside0.mk hc0
 clear hr0 hc0
 have HR1 := Aside0.mk hr1
 have HC1 := Aside0.mk hc1
 clear hr1 hc1
 have HB := Aside0.mk (Below.refl w.heap.size w)
 have H : (if 0 ≤ (l1.length : Int) then (if ((l1.length : Int) : Int).toNat ≤ 11728124029610 then (linear_turned.l0 k l0 (List.replicate ((l1.length : Int) : Int).toNat []) l1 (l1.length : Int) 0) else (none)) else (none)) = some r := h
 clear h
 by_cases c3 : 0 ≤ (l1.length : Int)
 ·rw [if_pos c3] at H
  have c3b0 := eq_true c3
  have c3b1 : decide (0 ≤ (l1.length : Int)) = true := decide_eq_true c3
  clear c3
  by_cases c4 : ((l1.length : Int) : Int).toNat ≤ 11728124029610
  ·rw [if_pos c4] at H
   have c4b0 := eq_true c4
   have c4b1 : decide (((l1.length : Int) : Int).toNat ≤ 11728124029610) = true := decide_eq_true c4
   clear c4
   obtain ⟨y123, hy123⟩ : ∃ y_ : List (List Int), y_ = (List.replicate ((l1.length : Int) : Int).toNat []) := ⟨_, rfl⟩
   replace H : (linear_turned.l0 k l0 y123 l1 (l1.length : Int) 0) = some r := by first | (rw [hy123]; with_reducible exact H) | (have H2_ := (Option.bind_some _ _).symm.trans H; rw [hy123]; with_reducible exact H2_) | (have H2_ := (Option.bind_some _ _).symm.trans H; with_reducible exact H2_) | with_reducible exact H | (rw [hy123]; exact H) | exact H
   have Ny123 := Aside0.mk hy123
   clear hy123
   have H' := Aside0.mk H
   clear H
   go_enter Try.func169, Try.ntmps169
   go_wp2_with (first | ((with_reducible refine gate_dst (N := 12) rfl ?_); refine Kd.S_make (Kd.slice 3 (Kd.int .i64)) _ 23 rfl (N := 12) rfl 134 _ _ rfl (l1.length : Int) rfl rfl Try.underlying134 (.slice none 0 0) 24 info23 rfl (by decide) (by omega) [] (ok := fun _ => True) (okp := fun _ => True) ⟨_, rfl, Kd.R_nil _ _ _ _ _⟩ (fun _ hk => hk) trivial (of_decide_eq_true (by first | (with_reducible assumption) | assumption)) (Nat.le_trans (Nat.mul_le_mul_right _ (of_decide_eq_true (by first | (with_reducible assumption) | assumption) : (l1.length : Int).toNat ≤ 11728124029610)) (by omega)) (Below.refl _ _) (Nat.le_refl _) ?_; intro v124 w5 ho6 hb hg_ hnew_; clear hg_ hnew_; (first | rw [← Ny123.out] at ho6 | (simp only [Int.reduceToNat] at ho6; rw [← Ny123.out] at ho6)); have n0_ := Aside0.mk (Kd.S_lower ho6 (below_size (by repeat (first | (with_reducible first | exact HB.out | apply below_alloc | apply pw_below_drewN | apply below_drew1) | exact HB.out)))); have n1_ := Aside0.mk (below_step (by repeat (first | (with_reducible first | exact HB.out | apply below_alloc | apply pw_below_drewN | apply below_drew1) | exact HB.out)) hb); clear HB; have HO125 := n0_; have HB := n1_; clear n0_ n1_; clear hb ho6))
   go_loopg [15] k (fun kq v15 w' => ∃ (x5_1 : List (List Int)) (x15_1 : Int), v15 = .int .i64 x15_1 ∧ Aside0 (linear_turned.l0 kq l0 x5_1 l1 (l1.length : Int) x15_1 = some r) ∧ Aside0 (kq ≤ k) ∧ Aside0 (Kd.S (Kd.slice 3 (Kd.int .i64)) 23 w' w.heap.size (fun _ => True) v124 x5_1) ∧ Aside0 (Below w.heap.size w w'))
   case atStart => exact ⟨(y123), (0), (by first | rfl | (simp; done) | (simp [*]; done)), H', ⟨Nat.le_refl _⟩, ⟨by (with_reducible repeat (first | apply Kd.S_alloc | apply Kd.S_drewN | apply Kd.S_drew)); exact HO125.out⟩, ⟨by repeat (first | (with_reducible first | exact HB.out | apply below_alloc | apply pw_below_drewN | apply below_drew1) | exact HB.out)⟩⟩
   case round =>
    clear H'
    try clear c1
    try clear p2
    try clear c3
    try clear c3b0
    try clear c3b1
    try clear c4
    try clear c4b0
    try clear c4b1
    obtain ⟨x5_1, x15_1, rfl, HA, HK1, HO_5, HB⟩ := hrel
    cases gk with
    | zero => exact absurd HA.out (by simp [linear_turned.l0])
    | succ k1 =>
     have H := HA.out
     clear HA
     simp only [linear_turned.l0] at H
     by_cases c7 : x15_1 < (l1.length : Int)
     ·rw [if_pos c7] at H
      have c7b0 : decide (x15_1 < (l1.length : Int)) = true := decide_eq_true c7
      clear c7
      by_cases c8 : 0 ≤ x15_1
      ·rw [if_pos c8] at H
       have c8b0 : decide (0 ≤ x15_1) = true := decide_eq_true c8
       clear c8
       by_cases c9 : x15_1 < (l1.length : Int)
       ·rw [if_pos c9] at H
        have c9b0 : decide (x15_1 < (l1.length : Int)) = true := decide_eq_true c9
        clear c9
        have H' := Aside0.mk H
        clear H
        have p126 : 0 ≤ (x15_1 : Int) := of_decide_eq_true (by first | (with_reducible assumption) | assumption)
        have q126 : x15_1 < (l1.length : Int) := of_decide_eq_true (by first | (with_reducible assumption) | assumption)
        obtain ⟨ad126, e126, hx126_0⟩ := Kd.at_int HR1.out x15_1 p126 q126
        cases e126
        replace hx126_0 := (HB.out.cell (World.block_lt_of_cell? w _ hx126_0)).trans hx126_0
        replace p126 := eq_true p126
        replace q126 := eq_true q126
        go_wp2
        go_loopg [22] k1 (fun kq v22 w' => ∃ (x5_2 : List (List Int)) (x22_2 : Int), v22 = .int .i64 x22_2 ∧ Aside0 (linear_turned.l1 kq l0 x5_2 x15_1 (rd l1 x15_1) l1 (l1.length : Int) x15_1 l0 (l0.length : Int) x22_2 = some r) ∧ Aside0 (kq ≤ k1) ∧ Aside0 (Kd.S (Kd.slice 3 (Kd.int .i64)) 23 w' w.heap.size (fun _ => True) v124 x5_2) ∧ Aside0 (Below w.heap.size w w'))
        case atStart => exact ⟨(x5_1), (0), (by first | rfl | (simp; done) | (simp [*]; done)), H', ⟨Nat.le_refl _⟩, ⟨by (with_reducible repeat (first | apply Kd.S_alloc | apply Kd.S_drewN | apply Kd.S_drew)); exact HO_5.out⟩, ⟨by repeat (first | (with_reducible first | exact HB.out | apply below_alloc | apply pw_below_drewN | apply below_drew1) | exact HB.out)⟩⟩
        case round =>
         clear H'
         try clear c1
         try clear p1
         try clear q1
         try clear hx1
         try clear p2
         try clear c3
         try clear c3b0
         try clear c3b1
         try clear c4
         try clear c4b0
         try clear c4b1
         try clear c7
         try clear c7b0
         try clear c8
         try clear c8b0
         try clear c9
         try clear c9b0
         try clear hx126_0
         try clear p126
         try clear p2
         try clear q126
         obtain ⟨x5_2, x22_2, rfl, HA, HK2, HO_5, HB⟩ := hrel
         cases gk with
         | zero => exact absurd HA.out (by simp [linear_turned.l1])
         | succ k2 =>
          have H := HA.out
          clear HA
          simp only [linear_turned.l1] at H
          by_cases c10 : x22_2 < (l0.length : Int)
          ·rw [if_pos c10] at H
           have c10b0 : decide (x22_2 < (l0.length : Int)) = true := decide_eq_true c10
           clear c10
           by_cases c11 : 0 ≤ x22_2
           ·rw [if_pos c11] at H
            have c11b0 : decide (0 ≤ x22_2) = true := decide_eq_true c11
            clear c11
            by_cases c12 : x22_2 < (l0.length : Int)
            ·rw [if_pos c12] at H
             have c12b0 : decide (x22_2 < (l0.length : Int)) = true := decide_eq_true c12
             clear c12
             by_cases c13 : 0 ≤ x15_1
             ·rw [if_pos c13] at H
              have c13b0 : decide (0 ≤ x15_1) = true := decide_eq_true c13
              clear c13
              by_cases c14 : x15_1 < (x5_2.length : Int)
              ·rw [if_pos c14] at H
               have c14b0 : decide (x15_1 < (x5_2.length : Int)) = true := decide_eq_true c14
               clear c14
               by_cases c15 : x15_1 < ((rd_L1 l0 x22_2).length : Int)
               ·rw [if_pos c15] at H
                have c15b0 : decide (x15_1 < ((rd_L1 l0 x22_2).length : Int)) = true := decide_eq_true c15
                clear c15
                by_cases c16 : (rd_L1 x5_2 x15_1).length < 17592186044416
                ·rw [if_pos c16] at H
                 have LMc16 := Aside0.mk c16
                 clear c16
                 obtain ⟨y130, hy130⟩ : ∃ y_ : List Int, y_ = ((rd_L1 x5_2 x15_1) ++ [rd (rd_L1 l0 x22_2) x15_1]) := ⟨_, rfl⟩
                 replace H : (linear_turned.l1 k2 l0 (x5_2.set (x15_1 : Int).toNat y130) x15_1 (rd l1 x15_1) l1 (l1.length : Int) x15_1 l0 (l0.length : Int) (wrap64 (x22_2 + 1))) = some r := by first | (rw [hy130]; with_reducible exact H) | (have H2_ := (Option.bind_some _ _).symm.trans H; rw [hy130]; with_reducible exact H2_) | (have H2_ := (Option.bind_some _ _).symm.trans H; with_reducible exact H2_) | with_reducible exact H | (rw [hy130]; exact H) | exact H
                 have Ny130 := Aside0.mk hy130
                 clear hy130
                 obtain ⟨y133, hy133⟩ : ∃ y_ : List (List Int), y_ = (x5_2.set (x15_1 : Int).toNat y130) := ⟨_, rfl⟩
                 replace H : (linear_turned.l1 k2 l0 y133 x15_1 (rd l1 x15_1) l1 (l1.length : Int) x15_1 l0 (l0.length : Int) (wrap64 (x22_2 + 1))) = some r := by first | (rw [hy133]; with_reducible exact H) | (have H2_ := (Option.bind_some _ _).symm.trans H; rw [hy133]; with_reducible exact H2_) | (have H2_ := (Option.bind_some _ _).symm.trans H; with_reducible exact H2_) | with_reducible exact H | (rw [hy133]; exact H) | exact H
                 have Ny133 := Aside0.mk hy133
                 clear hy133
                 have H' := Aside0.mk H
                 clear H
                 have p127 : 0 ≤ (x22_2 : Int) := of_decide_eq_true (by first | (with_reducible assumption) | assumption)
                 have q127 : x22_2 < (l0.length : Int) := of_decide_eq_true (by first | (with_reducible assumption) | assumption)
                 obtain ⟨ad127, A127_0, c127_0, e127, hx127_0, hl127_0, hi127_0⟩ := at_L1 HR0.out x22_2 p127 q127
                 cases e127
                 replace hx127_0 := (HB.out.cell (World.block_lt_of_cell? w _ hx127_0)).trans hx127_0
                 have HR127_0 := Aside0.mk hi127_0
                 have HC127_0 := Aside0.mk hl127_0
                 clear hi127_0 hl127_0
                 replace p127 := eq_true p127
                 replace q127 := eq_true q127
                 try go_wp2
                 have n0_ := Aside0.mk (Kd.S_drew HO_5.out)
                 have n1_ := Aside0.mk (below_drew1 HB.out)
                 clear HO_5
                 clear HB
                 have HO_5 := n0_
                 have HB := n1_
                 clear n0_ n1_
                 obtain ⟨Ao19, co19, eo19⟩ := Kd.S_slice HO_5.out
                 (first | subst eo19 | (injection eo19 with f1_ f2_ f3_; have f4_ := f1_.symm; have f5_ := f3_.symm; clear f1_ f2_ f3_; subst f4_; subst f5_))
                 have p128 : 0 ≤ (x15_1 : Int) := of_decide_eq_true (by first | (with_reducible assumption) | assumption)
                 have q128 : x15_1 < (x5_2.length : Int) := of_decide_eq_true (by first | (with_reducible assumption) | assumption)
                 obtain ⟨ad128, A128_0, c128_0, e128, hx128_0, hl128_0, hi128_0⟩ := at_L1 (Kd.S_reads' HO_5.out).2.2 x15_1 p128 q128
                 cases e128
                 obtain ⟨ce128, hce128, hMe128, hcc128⟩ := Kd.S_get HO_5.out [] x15_1 p128 (by first | exact q128 | exact of_decide_eq_true (by first | (with_reducible assumption) | assumption) | (have e_ := (Kd.S_reads' HO_5.out).1; omega))
                 obtain ⟨ve128_0, rfl, ge128_0⟩ := hMe128
                 have hv128_0 := hcc128 0 _ rfl
                 rw [Nat.add_zero, show ((Kd.slice 3 (Kd.int .i64))).sz = 1 from rfl, Nat.mul_one] at hv128_0
                 replace hv128_0 := Option.some.inj (hv128_0.symm.trans hx128_0)
                 rw [hv128_0] at ge128_0
                 have HL128_0 := Aside0.mk (show Kd.R (Kd.int .i64) 3 _ _ _ _ (rd_L1 x5_2 x15_1) from ge128_0)
                 clear hv128_0 ge128_0
                 have HX128_0 := Aside0.mk hx128_0
                 clear hcc128 hce128
                 have HR128_0 := Aside0.mk hi128_0
                 have HC128_0 := Aside0.mk hl128_0
                 clear hi128_0 hl128_0
                 replace p128 := eq_true p128
                 replace q128 := eq_true q128
                 have p129 : 0 ≤ (x15_1 : Int) := of_decide_eq_true (by first | (with_reducible assumption) | assumption)
                 have q129 : x15_1 < ((rd_L1 l0 x22_2).length : Int) := of_decide_eq_true (by first | (with_reducible assumption) | assumption)
                 obtain ⟨ad129, e129, hx129_0⟩ := Kd.at_int HR127_0.out x15_1 p129 q129
                 have hw129_0 := hx129_0
                 cases e129
                 replace hx129_0 := (HB.out.cell (World.block_lt_of_cell? w _ hx129_0)).trans hx129_0
                 replace p129 := eq_true p129
                 replace q129 := eq_true q129
                 obtain ⟨go20, co20, eo20, gb20, gl20, cl20, HG20⟩ := Kd.S_form HO_5.out (by have h_ : (x15_1 : Int) < ((x5_2.length : Int) : Int) := of_decide_eq_true (by first | (with_reducible assumption) | assumption); have h2_ : 0 ≤ (x15_1 : Int) := (of_decide_eq_true (by first | (with_reducible assumption) | assumption)); omega)
                 (first | cases eo20 | (injection eo20 with ea_ en_ ec_; (first | subst ea_ | (injection ea_ with ea_; subst ea_)); subst ec_; clear en_))
                 have GB20 := Aside0.mk gb20
                 have GG20 := Aside0.mk HG20
                 clear gb20 gl20 HG20
                 (first | simp only [add_plain] at hx128_0 | skip)
                 obtain ⟨oki20, ce20, hcl20, hM20, hcc20, _, _, hH20⟩ := Kd.S_elem HO_5.out [] (x15_1 : Int) (of_decide_eq_true (by first | (with_reducible assumption) | assumption)) (by have h_ : (x15_1 : Int) < ((x5_2.length : Int) : Int) := of_decide_eq_true (by first | (with_reducible assumption) | assumption); first | exact h_ | (have e_ := (Kd.S_reads' HO_5.out).1; omega) | simpa using h_)
                 obtain ⟨ve20_0, rfl, ge20_0⟩ := hM20
                 have hv20 := hcc20 0 _ rfl
                 have hX20 := HX128_0.out
                 (try simp only [add_plain] at hX20)
                 (try simp only [Nat.add_zero] at hv20)
                 (try rw [show ((Kd.slice 3 (Kd.int .i64))).sz = 1 from rfl, Nat.mul_one] at hv20)
                 replace hv20 := Option.some.inj (hv20.symm.trans hX20)
                 subst hv20
                 clear hX20 hcc20 hcl20
                 have UU20 := Aside0.mk (show Kd.R (Kd.int .i64) 3 _ w.heap.size oki20 (.slice A128_0 (rd_L1 x5_2 x15_1).length c128_0) (rd_L1 x5_2 x15_1) from ge20_0)
                 have HH20 := Aside0.mk hH20
                 have HN20 := Aside0.mk (Kd.S_reads' HO_5.out).1
                 clear hH20 ge20_0
                 refine start_ (n := 14) (S := fun w' => w'.cell? ⟨go20, (x15_1).toNat, none⟩ = some (.slice A128_0 (rd_L1 x5_2 x15_1).length c128_0) ∧ w'.cell? (ad129.add (x15_1).toNat) = some (.int .i64 (rd (rd_L1 l0 x22_2) x15_1))) (ds := [13]) #[false, false, false, false, false, false, false, false, false, false, false, false, false, false] (by kernel_rfl) rfl rfl ⟨hx128_0, ((HB.out.cell (World.block_lt_of_cell? w _ hw129_0)).trans hw129_0)⟩ (fun hHeld => ?_); refine with_tabW linear_turned.tab8 linear_turned.bits8 (fun HT_ HW_ => ?_)
                 generalize wr.drew = w18 at HO_5 HB GG20 HH20 HL128_0 HR128_0 HX128_0 UU20 hx128_0 hx129_0 hHeld ⊢
                 refine pure_ (i := 0) (N := some 26) (v := ?_) (a' := ?_) #[true, false, false, false, false, false, false, false, false, false, false, false, false, false] rfl rfl (any_of HT_.out (by kernel_rfl)) (fun _ _ _ h => h) (Or.inl ⟨by rfl, ?_⟩) ?_ ?_
                 rotate_left
                 ·intro w'
                  go_simp
                  with_reducible rfl
                 rotate_left
                 ·simp only [Act.put, List.setIfInBounds_toArray, List.set_cons_zero, List.set_cons_succ, i64_w, i32_w]
                  rfl
                 refine pure_ (i := 1) (N := some 27) (v := ?_) (a' := ?_) #[true, true, false, false, false, false, false, false, false, false, false, false, false, false] rfl rfl (any_of HT_.out (by kernel_rfl)) (fun _ _ _ h => h) (Or.inl ⟨by rfl, ?_⟩) ?_ ?_
                 rotate_left
                 ·intro w'
                  go_simp
                  with_reducible rfl
                 rotate_left
                 ·simp only [Act.put, List.setIfInBounds_toArray, List.set_cons_zero, List.set_cons_succ, i64_w, i32_w]
                  rfl
                 refine pure_ (i := 2) (N := some 28) (v := ?_) (a' := ?_) #[true, true, true, false, false, false, false, false, false, false, false, false, false, false] rfl rfl (any_of HT_.out (by kernel_rfl)) (fun _ _ _ h => h) (Or.inl ⟨by rfl, ?_⟩) ?_ ?_
                 rotate_left
                 ·intro w'
                  go_simp
                  with_reducible rfl
                 rotate_left
                 ·simp only [Act.put, List.setIfInBounds_toArray, List.set_cons_zero, List.set_cons_succ, i64_w, i32_w]
                  rfl
                 refine pure_ (i := 3) (N := some 29) (v := ?_) (a' := ?_) #[true, true, true, true, false, false, false, false, false, false, false, false, false, false] rfl rfl (any_of HT_.out (by kernel_rfl)) (fun _ _ _ h => h) (Or.inl ⟨by rfl, ?_⟩) ?_ ?_
                 rotate_left
                 ·intro w'
                  go_simp
                  with_reducible rfl
                 rotate_left
                 ·simp only [Act.put, List.setIfInBounds_toArray, List.set_cons_zero, List.set_cons_succ, i64_w, i32_w]
                  rfl
                 refine pure_ (i := 4) (N := some 30) (v := ?_) (a' := ?_) #[true, true, true, true, true, false, false, false, false, false, false, false, false, false] rfl rfl (any_of HT_.out (by kernel_rfl)) (fun _ _ _ h => h) (Or.inl ⟨by rfl, ?_⟩) ?_ ?_
                 rotate_left
                 ·intro w'
                  go_simp
                  with_reducible rfl
                 rotate_left
                 ·simp only [Act.put, List.setIfInBounds_toArray, List.set_cons_zero, List.set_cons_succ, i64_w, i32_w]
                  rfl
                 refine pure_ (i := 6) (N := some 32) (v := ?_) (a' := ?_) #[true, true, true, true, true, false, true, false, false, false, false, false, false, false] rfl rfl (any_of HT_.out (by kernel_rfl)) (fun _ _ _ h => h) (Or.inl ⟨by rfl, ?_⟩) ?_ ?_
                 rotate_left
                 ·intro w'
                  go_simp
                  with_reducible rfl
                 rotate_left
                 ·simp only [Act.put, List.setIfInBounds_toArray, List.set_cons_zero, List.set_cons_succ, i64_w, i32_w]
                  rfl
                 refine pure_ (i := 7) (N := some 33) (v := ?_) (a' := ?_) #[true, true, true, true, true, false, true, true, false, false, false, false, false, false] rfl rfl (any_of HT_.out (by kernel_rfl)) (fun _ _ _ h => h) (Or.inl ⟨by rfl, ?_⟩) ?_ ?_
                 rotate_left
                 ·intro w'
                  go_simp
                  with_reducible rfl
                 rotate_left
                 ·simp only [Act.put, List.setIfInBounds_toArray, List.set_cons_zero, List.set_cons_succ, i64_w, i32_w]
                  rfl
                 refine pure_ (i := 8) (N := some 34) (v := ?_) (a' := ?_) #[true, true, true, true, true, false, true, true, true, false, false, false, false, false] rfl rfl (any_of HT_.out (by kernel_rfl)) (fun _ _ _ h => h) (Or.inl ⟨by rfl, ?_⟩) ?_ ?_
                 rotate_left
                 ·intro w'
                  go_simp
                  with_reducible rfl
                 rotate_left
                 ·simp only [Act.put, List.setIfInBounds_toArray, List.set_cons_zero, List.set_cons_succ, i64_w, i32_w]
                  rfl
                 refine take_ (i := 5) (N := some 31) (v := ?_) (a' := ?_) #[true, true, true, true, true, true, true, true, true, false, false, false, false, false] rfl rfl (take_ofW HT_.out HW_.out (by kernel_rfl)) (fun _ _ _ h => h) (Or.inl ⟨by rfl, ?_⟩) hHeld ?_ ?_
                 rotate_left
                 ·rintro w' ⟨s0, s1⟩
                  go_simp
                  with_reducible rfl
                 rotate_left
                 ·simp only [Act.put, List.setIfInBounds_toArray, List.set_cons_zero, List.set_cons_succ, i64_w, i32_w]
                  rfl
                 refine take_ (i := 9) (N := some 35) (v := ?_) (a' := ?_) #[true, true, true, true, true, true, true, true, true, true, false, false, false, false] rfl rfl (take_ofW HT_.out HW_.out (by kernel_rfl)) (fun _ _ _ h => h) (Or.inl ⟨by rfl, ?_⟩) hHeld ?_ ?_
                 rotate_left
                 ·rintro w' ⟨s0, s1⟩
                  go_simp
                  with_reducible rfl
                 rotate_left
                 ·simp only [Act.put, List.setIfInBounds_toArray, List.set_cons_zero, List.set_cons_succ, i64_w, i32_w]
                  rfl
                 refine one_ (i := 10) (N := some 36) #[true, true, true, true, true, true, true, true, true, true, true, false, false, false] rfl rfl (one_of HT_.out (by kernel_rfl)) (by decide) (fun K hK => ?_)
                 refine value_ (w1 := ?_) (v := ?_) (by rfl) rfl ?_ ?_
                 rotate_left 2
                 ·go_simp
                  constructor
                  ·rfl
                  ·rfl
                 refine hK.out _ _ ⟨(World.cell?_alloc_lt _ _ _ (World.block_lt_of_cell? _ _ (hHeld.1))).trans (hHeld.1), (World.cell?_alloc_lt _ _ _ (World.block_lt_of_cell? _ _ (((HB.out.cell (World.block_lt_of_cell? w _ hw129_0)).trans hw129_0)))).trans (((HB.out.cell (World.block_lt_of_cell? w _ hw129_0)).trans hw129_0))⟩ (fun hHeld => ?_)
                 clear hK K
                 refine norm_ (a' := ?_) ?_ ?_
                 rotate_left
                 ·show Act.put _ (some 36) _ = _
                  simp only [Act.put, List.setIfInBounds_toArray, List.set_cons_zero, List.set_cons_succ, i64_w, i32_w]
                  rfl
                 refine one_ (i := 11) (N := some 37) #[true, true, true, true, true, true, true, true, true, true, true, true, false, false] rfl rfl (one_of HT_.out (by kernel_rfl)) (by decide) (fun K hK => ?_)
                 refine Kd.R_append_step (Kd.int .i64) (w0 := w) w.heap.size (by rfl) (.tmp 31) (.tmp 36) 23 3 (.int .i64 0) 8 rfl Try.underlying23 info3 rfl (by decide) (by omega) (.slice A128_0 (rd_L1 x5_2 x15_1).length c128_0) (rd_L1 x5_2 x15_1) (rd (rd_L1 l0 x22_2) x15_1) [.int .i64 (rd (rd_L1 l0 x22_2) x15_1)] (fun k_ => oki20 k_ ∨ ((fun _ => True)) k_ ∧ w18.heap.size ≤ k_) (fun _ => False) rfl rfl ?aP (fun _ hk => hk.elim) ?aF ?aO ?aB ?aS ?aL ?_
                 (case aP => exact rfl)
                 (case aB => exact (by repeat (first | (with_reducible first | exact HB.out | apply below_alloc | apply pw_below_drewN | apply below_drew1) | exact HB.out)))
                 (case aF => exact (fun k_ hk => .inr ⟨trivial, hk⟩))
                 (case aO => exact (by (with_reducible repeat (first | apply Kd.R_alloc | apply Kd.R_drewN | apply Kd.R_drew)); exact Kd.R_mono UU20.out (fun _ hk => .inl hk)))
                 (case aS => exact (below_size (by repeat (first | (with_reducible first | exact HB.out | apply below_alloc | apply pw_below_drewN | apply below_drew1) | exact HB.out))))
                 (case aL => have := LMc16.out; omega)
                 intro v131 w21 ho hb hg hat
                 (first | have HS0_ := cell_grown hg (hHeld.1) (by first | (rw [add_block]; exact (fun e_ => ((HL128_0.out.1 _ e_.symm).2) rfl)) | (show some (Addr.add _ _).block ≠ _; rw [add_block]; exact (fun e_ => ((HL128_0.out.1 _ e_.symm).2) rfl)) | exact (fun e_ => ((HL128_0.out.1 _ e_.symm).2) rfl)) | have HS0_ := cell_grown hg (cell_unalloc (hHeld.1) (by first | (rw [add_block]; exact Kd.S_lt HO_5.out _ rfl) | (show (Addr.add _ _).block < _; rw [add_block]; exact Kd.S_lt HO_5.out _ rfl) | exact Kd.S_lt HO_5.out _ rfl)) (by first | (rw [add_block]; exact (fun e_ => ((HL128_0.out.1 _ e_.symm).2) rfl)) | (show some (Addr.add _ _).block ≠ _; rw [add_block]; exact (fun e_ => ((HL128_0.out.1 _ e_.symm).2) rfl)) | exact (fun e_ => ((HL128_0.out.1 _ e_.symm).2) rfl)))
                 rw [← Ny130.out] at ho
                 have n0_ := Aside0.mk (hb)
                 have n1_ := Aside0.mk (Kd.H_grown (Kd.H_widen (by repeat (first | exact HH20.out | refine Kd.H_alloc ?_ _ | refine Kd.H_drewN ?_ _ | refine Kd.H_drew ?_))) hg (fun k_ e_ => .inl (UU20.out.1 k_ e_)))
                 have n2_ := Aside0.mk (ho)
                 clear HB
                 clear HH20
                 clear HO_5
                 clear UU20
                 clear HL128_0
                 have HB := n0_
                 have HH20 := n1_
                 have HO132 := n2_
                 clear n0_ n1_ n2_
                 clear ho hb hg hat
                 have p17 : 0 ≤ (x15_1 : Int) := of_decide_eq_true (by first | (with_reducible assumption) | assumption)
                 have q17 : (x15_1 : Int) < ((x5_2.length : Int) : Int) := of_decide_eq_true (by first | (with_reducible assumption) | assumption)
                 replace p17 := eq_true p17
                 replace q17 := eq_true q17
                 obtain ⟨Ao24, co24, eo24⟩ := Kd.R_slice HO132.out
                 (first | subst eo24 | (injection eo24 with f1_ f2_ f3_; have f4_ := f1_.symm; have f5_ := f3_.symm; clear f1_ f2_ f3_; subst f4_; subst f5_))
                 obtain ⟨_, _, hraw22, _, _, hcc22, _⟩ := Kd.H_raw HH20.out (of_decide_eq_true (by first | (with_reducible assumption) | assumption)) (by have h_ : (x15_1 : Int) < ((x5_2.length : Int) : Int) := of_decide_eq_true (by first | (with_reducible assumption) | assumption); first | exact h_ | (have e_ := (HN20.out); omega) | simpa using h_)
                 obtain ⟨_, hfr22⟩ := Kd.H_at HH20.out (of_decide_eq_true (by first | (with_reducible assumption) | assumption)) (by have h_ : (x15_1 : Int) < ((x5_2.length : Int) : Int) := of_decide_eq_true (by first | (with_reducible assumption) | assumption); first | exact h_ | (have e_ := (HN20.out); omega) | simpa using h_)
                 have hx22_0 := hcc22 0 _ rfl
                 have hf22_0 := hfr22 0
                 (try simp only [Nat.add_zero] at hx22_0 hf22_0)
                 (try rw [show ((Kd.slice 3 (Kd.int .i64))).sz = 1 from rfl, Nat.mul_one] at hx22_0)
                 (try rw [show ((Kd.slice 3 (Kd.int .i64))).sz = 1 from rfl, Nat.mul_one] at hf22_0)
                 have HP22 := Kd.S_seg0 HH20.out (of_decide_eq_true (by first | (with_reducible assumption) | assumption)) (by have h_ : (x15_1 : Int) < ((x5_2.length : Int) : Int) := of_decide_eq_true (by first | (with_reducible assumption) | assumption); first | exact h_ | (have e_ := (HN20.out); omega) | simpa using h_) (seg := [.slice Ao24 y130.length co24]) (j := 0) (show 1 ≤ 1 from by decide) (x' := y130) (Kd.M_row HO132.out) (fun _ hk => hk)
                 (try simp only [show ((Kd.slice 3 (Kd.int .i64))).sz = 1 from rfl, Nat.mul_one, Nat.add_zero] at HP22)
                 clear hcc22 hfr22
                 have HS22 := HP22.1
                 rw [← Ny133.out] at HS22
                 have HQ22 := Aside0.mk HS22
                 obtain ⟨_, hgg22⟩ := Kd.R_typed hraw22 go20 rfl
                 have GG22_ := Aside0.mk hgg22
                 clear HP22 HS22 hgg22
                 refine hK.out _ _ ⟨HS0_, ((HB.out.cell (World.block_lt_of_cell? w _ hw129_0)).trans hw129_0)⟩ (fun hHeld => ?_)
                 clear hK K
                 refine norm_ (a' := ?_) ?_ ?_
                 rotate_left
                 ·show Act.put _ (some 37) _ = _
                  simp only [Act.put, List.setIfInBounds_toArray, List.set_cons_zero, List.set_cons_succ, i64_w, i32_w]
                  rfl
                 refine pure_ (i := 12) (N := some 38) (v := ?_) (a' := ?_) #[true, true, true, true, true, true, true, true, true, true, true, true, true, false] rfl rfl (any_of HT_.out (by kernel_rfl)) (fun _ _ _ h => h) (Or.inl ⟨by rfl, ?_⟩) ?_ ?_
                 rotate_left
                 ·intro w'
                  go_simp
                  with_reducible rfl
                 rotate_left
                 ·simp only [Act.put, List.setIfInBounds_toArray, List.set_cons_zero, List.set_cons_succ, i64_w, i32_w]
                  rfl
                 refine last_ (i := 13) (N := none) #[true, true, true, true, true, true, true, true, true, true, true, true, true, true] rfl rfl (one_of HT_.out (by kernel_rfl)) (by decide) (fun K hK => ?_)
                 refine skip_ (w1 := ?_) (by rfl) rfl ?_ ?_
                 rotate_left
                 ·go_simp
                  rfl
                 refine hK.out _ _ ?_
                 clear hK K
                 refine done_ (done_of HT_.out (by kernel_rfl)) ?_
                 try go_wp2
                 go_roundg k2
                 case measure => have := HK1.out; have := HK2.out; omega
                 case rel => exact ⟨(y133), (wrap64 (x22_2 + 1)), (by first | rfl | (simp; done) | (simp [*]; done)), H', ⟨by have := HK1.out; have := HK2.out; omega⟩, ⟨by (with_reducible repeat (first | apply Kd.S_alloc | apply Kd.S_drewN | apply Kd.S_drew)); exact HQ22.out⟩, ⟨by repeat (first | (with_reducible first | exact HB.out | apply below_alloc | apply pw_below_drewN | apply below_drew1 | refine below_set ?_ GB20.out) | exact HB.out)⟩⟩
                ·rw [if_neg c16] at H
                 exact absurd H (by simp)
               ·rw [if_neg c15] at H
                exact absurd H (by simp)
              ·rw [if_neg c14] at H
               exact absurd H (by simp)
             ·rw [if_neg c13] at H
              exact absurd H (by simp)
            ·rw [if_neg c12] at H
             exact absurd H (by simp)
           ·rw [if_neg c11] at H
            exact absurd H (by simp)
          ·rw [if_neg c10] at H
           have c10b0 : decide (x22_2 < (l0.length : Int)) = false := decide_eq_false c10
           clear c10
           by_cases c25 : 0 ≤ x15_1
           ·rw [if_pos c25] at H
            have c25b0 : decide (0 ≤ x15_1) = true := decide_eq_true c25
            clear c25
            by_cases c26 : x15_1 < (x5_2.length : Int)
            ·rw [if_pos c26] at H
             have c26b0 : decide (x15_1 < (x5_2.length : Int)) = true := decide_eq_true c26
             clear c26
             by_cases c27 : (rd_L1 x5_2 x15_1).length < 17592186044416
             ·rw [if_pos c27] at H
              have LMc27 := Aside0.mk c27
              clear c27
              obtain ⟨y135, hy135⟩ : ∃ y_ : List Int, y_ = ((rd_L1 x5_2 x15_1) ++ [(rd l1 x15_1)]) := ⟨_, rfl⟩
              replace H : (linear_turned.l0 k2 l0 (x5_2.set (x15_1 : Int).toNat y135) l1 (l1.length : Int) (wrap64 (x15_1 + 1))) = some r := by first | (rw [hy135]; with_reducible exact H) | (have H2_ := (Option.bind_some _ _).symm.trans H; rw [hy135]; with_reducible exact H2_) | (have H2_ := (Option.bind_some _ _).symm.trans H; with_reducible exact H2_) | with_reducible exact H | (rw [hy135]; exact H) | exact H
              have Ny135 := Aside0.mk hy135
              clear hy135
              obtain ⟨y138, hy138⟩ : ∃ y_ : List (List Int), y_ = (x5_2.set (x15_1 : Int).toNat y135) := ⟨_, rfl⟩
              replace H : (linear_turned.l0 k2 l0 y138 l1 (l1.length : Int) (wrap64 (x15_1 + 1))) = some r := by first | (rw [hy138]; with_reducible exact H) | (have H2_ := (Option.bind_some _ _).symm.trans H; rw [hy138]; with_reducible exact H2_) | (have H2_ := (Option.bind_some _ _).symm.trans H; with_reducible exact H2_) | with_reducible exact H | (rw [hy138]; exact H) | exact H
              have Ny138 := Aside0.mk hy138
              clear hy138
              have H' := Aside0.mk H
              clear H
              obtain ⟨Ao29, co29, eo29⟩ := Kd.S_slice HO_5.out
              subst eo29
              have p134 : 0 ≤ (x15_1 : Int) := of_decide_eq_true (by first | (with_reducible assumption) | assumption)
              have q134 : x15_1 < (x5_2.length : Int) := of_decide_eq_true (by first | (with_reducible assumption) | assumption)
              obtain ⟨ad134, A134_0, c134_0, e134, hx134_0, hl134_0, hi134_0⟩ := at_L1 (Kd.S_reads' HO_5.out).2.2 x15_1 p134 q134
              cases e134
              obtain ⟨ce134, hce134, hMe134, hcc134⟩ := Kd.S_get HO_5.out [] x15_1 p134 (by first | exact q134 | exact of_decide_eq_true (by first | (with_reducible assumption) | assumption) | (have e_ := (Kd.S_reads' HO_5.out).1; omega))
              obtain ⟨ve134_0, rfl, ge134_0⟩ := hMe134
              have hv134_0 := hcc134 0 _ rfl
              rw [Nat.add_zero, show ((Kd.slice 3 (Kd.int .i64))).sz = 1 from rfl, Nat.mul_one] at hv134_0
              replace hv134_0 := Option.some.inj (hv134_0.symm.trans hx134_0)
              rw [hv134_0] at ge134_0
              have HL134_0 := Aside0.mk (show Kd.R (Kd.int .i64) 3 _ _ _ _ (rd_L1 x5_2 x15_1) from ge134_0)
              clear hv134_0 ge134_0
              have HX134_0 := Aside0.mk hx134_0
              clear hcc134 hce134
              have HR134_0 := Aside0.mk hi134_0
              have HC134_0 := Aside0.mk hl134_0
              clear hi134_0 hl134_0
              replace p134 := eq_true p134
              replace q134 := eq_true q134
              obtain ⟨go30, co30, eo30, gb30, gl30, cl30, HG30⟩ := Kd.S_form HO_5.out (by have h_ : (x15_1 : Int) < ((x5_2.length : Int) : Int) := of_decide_eq_true (by first | (with_reducible assumption) | assumption); have h2_ : 0 ≤ (x15_1 : Int) := (of_decide_eq_true (by first | (with_reducible assumption) | assumption)); omega)
              (first | cases eo30 | (injection eo30 with ea_ en_ ec_; (first | subst ea_ | (injection ea_ with ea_; subst ea_)); subst ec_; clear en_))
              have GB30 := Aside0.mk gb30
              have GG30 := Aside0.mk HG30
              clear gb30 gl30 HG30
              (first | simp only [add_plain] at hx134_0 | skip)
              obtain ⟨oki30, ce30, hcl30, hM30, hcc30, _, _, hH30⟩ := Kd.S_elem HO_5.out [] (x15_1 : Int) (of_decide_eq_true (by first | (with_reducible assumption) | assumption)) (by have h_ : (x15_1 : Int) < ((x5_2.length : Int) : Int) := of_decide_eq_true (by first | (with_reducible assumption) | assumption); first | exact h_ | (have e_ := (Kd.S_reads' HO_5.out).1; omega) | simpa using h_)
              obtain ⟨ve30_0, rfl, ge30_0⟩ := hM30
              have hv30 := hcc30 0 _ rfl
              have hX30 := HX134_0.out
              (try simp only [add_plain] at hX30)
              (try simp only [Nat.add_zero] at hv30)
              (try rw [show ((Kd.slice 3 (Kd.int .i64))).sz = 1 from rfl, Nat.mul_one] at hv30)
              replace hv30 := Option.some.inj (hv30.symm.trans hX30)
              subst hv30
              clear hX30 hcc30 hcl30
              have UU30 := Aside0.mk (show Kd.R (Kd.int .i64) 3 _ w.heap.size oki30 (.slice A134_0 (rd_L1 x5_2 x15_1).length c134_0) (rd_L1 x5_2 x15_1) from ge30_0)
              have HH30 := Aside0.mk hH30
              have HN30 := Aside0.mk (Kd.S_reads' HO_5.out).1
              clear hH30 ge30_0
              go_wp2_with (first | ((with_reducible refine gate_builtin (b := .append) (xs := #[.tmp 45, .tmp 47]) rfl ?_); at_builtin; refine Kd.R_append (Kd.int .i64) (w0 := w) w.heap.size rfl (.tmp 45) (.tmp 47) 23 3 (.int .i64 0) 8 rfl Try.underlying23 info3 rfl (by decide) (by omega) (.slice A134_0 (rd_L1 x5_2 x15_1).length c134_0) (rd_L1 x5_2 x15_1) (rd l1 x15_1) [.int .i64 (rd l1 x15_1)] (fun k_ => oki30 k_ ∨ ((fun _ => True)) k_ ∧ wr.heap.size ≤ k_) (fun _ => False) rfl rfl ?aP (fun _ hk => hk.elim) ?aF ?aO ?aB ?aS ?aL ?_; (case aP => exact rfl); (case aB => exact (by repeat (first | (with_reducible first | exact HB.out | apply below_alloc | apply pw_below_drewN | apply below_drew1) | exact HB.out))); (case aF => exact (fun k_ hk => .inr ⟨trivial, hk⟩)); (case aO => exact (by (with_reducible repeat (first | apply Kd.R_alloc | apply Kd.R_drewN | apply Kd.R_drew)); exact Kd.R_mono UU30.out (fun _ hk => .inl hk))); (case aS => exact (below_size (by repeat (first | (with_reducible first | exact HB.out | apply below_alloc | apply pw_below_drewN | apply below_drew1) | exact HB.out)))); (case aL => have := LMc27.out; omega); intro v136 w31 ho hb hg hat; rw [← Ny135.out] at ho; have n0_ := Aside0.mk (hb); have n1_ := Aside0.mk (Kd.H_grown (Kd.H_widen (by repeat (first | exact HH30.out | refine Kd.H_alloc ?_ _ | refine Kd.H_drewN ?_ _ | refine Kd.H_drew ?_))) hg (fun k_ e_ => .inl (UU30.out.1 k_ e_))); have n2_ := Aside0.mk (ho); clear HB; clear HH30; clear HO_5; clear UU30; clear HL134_0; have HB := n0_; have HH30 := n1_; have HO137 := n2_; clear n0_ n1_ n2_; clear ho hb hg hat; have p28 : 0 ≤ (x15_1 : Int) := of_decide_eq_true (by first | (with_reducible assumption) | assumption); have q28 : (x15_1 : Int) < ((x5_2.length : Int) : Int) := of_decide_eq_true (by first | (with_reducible assumption) | assumption); replace p28 := eq_true p28; replace q28 := eq_true q28; obtain ⟨Ao34, co34, eo34⟩ := Kd.R_slice HO137.out; subst eo34; obtain ⟨_, _, hraw32, _, _, hcc32, _⟩ := Kd.H_raw HH30.out (of_decide_eq_true (by first | (with_reducible assumption) | assumption)) (by have h_ : (x15_1 : Int) < ((x5_2.length : Int) : Int) := of_decide_eq_true (by first | (with_reducible assumption) | assumption); first | exact h_ | (have e_ := (HN30.out); omega) | simpa using h_); obtain ⟨_, hfr32⟩ := Kd.H_at HH30.out (of_decide_eq_true (by first | (with_reducible assumption) | assumption)) (by have h_ : (x15_1 : Int) < ((x5_2.length : Int) : Int) := of_decide_eq_true (by first | (with_reducible assumption) | assumption); first | exact h_ | (have e_ := (HN30.out); omega) | simpa using h_); have hx32_0 := hcc32 0 _ rfl; have hf32_0 := hfr32 0; (try simp only [Nat.add_zero] at hx32_0 hf32_0); (try rw [show ((Kd.slice 3 (Kd.int .i64))).sz = 1 from rfl, Nat.mul_one] at hx32_0); (try rw [show ((Kd.slice 3 (Kd.int .i64))).sz = 1 from rfl, Nat.mul_one] at hf32_0); have HP32 := Kd.S_seg0 HH30.out (of_decide_eq_true (by first | (with_reducible assumption) | assumption)) (by have h_ : (x15_1 : Int) < ((x5_2.length : Int) : Int) := of_decide_eq_true (by first | (with_reducible assumption) | assumption); first | exact h_ | (have e_ := (HN30.out); omega) | simpa using h_) (seg := [.slice Ao34 y135.length co34]) (j := 0) (show 1 ≤ 1 from by decide) (x' := y135) (Kd.M_row HO137.out) (fun _ hk => hk); (try simp only [show ((Kd.slice 3 (Kd.int .i64))).sz = 1 from rfl, Nat.mul_one, Nat.add_zero] at HP32); clear hcc32 hfr32) | ((with_reducible refine gate_store (t := 23) (p := 49) rfl ?_); refine store_event (t := 23) (p := 49) (v := ?vo_w33) (w1 := (w31.setCell ⟨go30, (x15_1 : Int).toNat, none⟩ (.slice Ao34 y135.length co34))) ?hg ?ho ?hn ?hr ?_; (case ho => rfl); (case hg => rfl); (case hn => rfl); (case hr => first | (go_simp; done) | (go_simp; rfl)); intro w33 hw; have hg : w31.grownBy w33 (some go30) := (by rw [hw]; exact HP32.2); have hp_ : Kd.S (Kd.slice 3 (Kd.int .i64)) 23 w33 w.heap.size (fun _ => True) (.slice (some ⟨go30, 0, none⟩) x5_2.length co29) y138 := (by rw [hw, Ny138.out]; exact HP32.1); clear HP32; have n0_ := Aside0.mk ((by rw [hw]; exact below_set HB.out GB30.out : Below w.heap.size w w33)); have n1_ := Aside0.mk (hp_); clear HB; clear HO137; clear HH30; have HB := n0_; have HO_5 := n1_; clear n0_ n1_; clear hg hw hp_ hraw32))
              go_roundg k2
              case measure => have := HK1.out; have := HK2.out; omega
              case rel => exact ⟨(y138), (wrap64 (x15_1 + 1)), (by first | rfl | (simp; done) | (simp [*]; done)), H', ⟨by have := HK1.out; have := HK2.out; omega⟩, ⟨by (with_reducible repeat (first | apply Kd.S_alloc | apply Kd.S_drewN | apply Kd.S_drew)); exact HO_5.out⟩, ⟨by repeat (first | (with_reducible first | exact HB.out | apply below_alloc | apply pw_below_drewN | apply below_drew1) | exact HB.out)⟩⟩
             ·rw [if_neg c27] at H
              exact absurd H (by simp)
            ·rw [if_neg c26] at H
             exact absurd H (by simp)
           ·rw [if_neg c25] at H
            exact absurd H (by simp)
       ·rw [if_neg c9] at H
        exact absurd H (by simp)
      ·rw [if_neg c8] at H
       exact absurd H (by simp)
     ·rw [if_neg c7] at H
      have c7b0 : decide (x15_1 < (l1.length : Int)) = false := decide_eq_false c7
      clear c7
      obtain rfl := Option.some.inj H
      go_wp2
      go_ret
      exact ⟨_, by first | rfl | (simp [errW_none, errW_some] <;> rfl) | (simp [*, errW_none, errW_some] <;> rfl), by (with_reducible repeat (first | apply Kd.S_alloc | apply Kd.S_drewN | apply Kd.S_drew)); exact HO_5.out, by repeat (first | (with_reducible first | exact HB.out | apply below_alloc | apply pw_below_drewN | apply below_drew1) | exact HB.out)⟩
  ·rw [if_neg c4] at H
   exact absurd H (by simp)
 ·rw [if_neg c3] at H
  exact absurd H (by simp)
end Go.Proofs.Ytdbamhckgaoibaa.P
namespace Go.Proofs.Ytdbamhckgaoibaa.P
open Go.RowKit Go.Proofs.YtdbamhckgaoibaaW.PrintWords Go.Proofs.YtdbamhckgaoibaaW.PrintLast Go.Proofs.YtdbamhckgaoibaaW.PrintMore
theorem rd_L1_nat (l : List (List Int)) (j : Nat) : rd_L1 l (j : Int) = l.getD j [] := by unfold rd_L1; rw [Int.toNat_natCast]
theorem rd_nat (l : List Int) (j : Nat) : rd l (j : Int) = l.getD j 0 := by unfold rd; rw [Int.toNat_natCast]
theorem wrap_succ {j : Nat} (h : j < 1000000) : wrap64 ((j : Int) + 1) = ((j + 1 : Nat) : Int) := by unfold wrap64; omega
theorem set_set_row (t : List (List Int)) (i : Nat) (a b : List Int) : (t.set i a).set i b = t.set i b := by simp
theorem turned_l1 (rows : List (List Int)) (target : List Int) (i : Nat) (n T i' : Int) (k : Nat) (hlen : rows.length < 1000000) (hrows : ∀ j, j < rows.length → i < (rows.getD j []).length) :
    ∀ (d j : Nat) (t : List (List Int)), rows.length - j = d → j ≤ rows.length → i < t.length → (t.getD i []).length + d < 1000000 →
      linear_turned.l1 (k + d + 1) rows t (i : Int) n target T i' rows (rows.length : Int) (j : Int) = linear_turned.l0 k rows (t.set i (t.getD i [] ++ (rows.drop j).map (fun r => r.getD i 0) ++ [n])) target T (wrap64 (i' + 1)) := by
  intro d
  induction d with
  | zero =>
    intro j t hd hj hi hs
    obtain rfl : j = rows.length := by omega
    rw [linear_turned.l1, if_neg (by omega), if_pos (by omega), if_pos (by omega), rd_L1_nat, if_pos (by omega), List.drop_length, Int.toNat_natCast]
    simp
  | succ d ih =>
    intro j t hd hj hi hs
    have hjr := hrows j (by omega)
    rw [linear_turned.l1, if_pos (by omega), if_pos (by omega), if_pos (by omega), if_pos (by omega), if_pos (by omega), rd_L1_nat, rd_L1_nat, if_pos (by omega), if_pos (by omega), rd_nat, Int.toNat_natCast, wrap_succ (by omega)]
    rw [show k + (d + 1) = k + d + 1 from by omega, ih (j + 1) _ (by omega) (by omega) (by simpa using hi) (by
      rw [Sig.getD_set, if_pos ⟨rfl, hi⟩, List.length_append, List.length_singleton]; omega)]
    rw [Sig.getD_set, if_pos ⟨rfl, hi⟩, set_set_row, List.drop_eq_getElem_cons (show j < rows.length by omega), List.map_cons]
    have e : rows.getD j [] = rows[j] := by rw [List.getD_eq_getElem?_getD, List.getElem?_eq_getElem (by omega)]; rfl
    rw [e]
    simp
def tt (rows : List (List Int)) (target : List Int) (i : Nat) : List (List Int) := (Sig.turned rows target).take i ++ List.replicate (target.length - i) []
theorem tt_step {rows : List (List Int)} {target : List Int} {i : Nat} (hi : i < target.length) : (tt rows target i).set i ((tt rows target i).getD i [] ++ rows.map (fun r => r.getD i 0) ++ [target.getD i 0]) = tt rows target (i + 1) := by
  have hl : ((Sig.turned rows target).take i).length = i := by rw [List.length_take, Sig.turned_length]; omega
  have h0 : (tt rows target i).getD i [] = [] := by
    unfold tt
    rw [List.getD_eq_getElem?_getD, List.getElem?_append_right (by omega), hl, Nat.sub_self, List.getElem?_replicate, if_pos (by omega)]; rfl
  rw [h0, List.nil_append]
  unfold tt
  rw [List.set_append_right _ _ (by omega), hl, Nat.sub_self, show target.length - i = (target.length - (i + 1)) + 1 from by omega, List.replicate_succ, List.set_cons_zero]
  rw [List.take_succ_eq_append_getElem (by rw [Sig.turned_length]; exact hi), List.append_assoc]
  congr 1
  simp [Sig.turned]
theorem turned_l0 (rows : List (List Int)) (target : List Int) (hl1 : rows.length < 100000) (hl2 : target.length < 100000) (hrows : ∀ row ∈ rows, row.length = target.length) :
    ∀ (d i : Nat), target.length - i = d → i ≤ target.length → linear_turned.l0 (d * (rows.length + 2) + 1) rows (tt rows target i) target (target.length : Int) (i : Int) = some (Sig.turned rows target) := by
  intro d
  induction d with
  | zero =>
    intro i hd hi
    obtain rfl : i = target.length := by omega
    rw [Nat.zero_mul, linear_turned.l0, if_neg (by omega)]
    unfold tt
    rw [Nat.sub_self, List.replicate_zero, List.append_nil, List.take_of_length_le (by rw [Sig.turned_length]; omega)]
  | succ d ih =>
    intro i hd hi
    have hil : i < (tt rows target i).length := by unfold tt; rw [List.length_append, List.length_take, Sig.turned_length, List.length_replicate]; omega
    have h0 : ((tt rows target i).getD i []).length = 0 := by
      unfold tt
      rw [List.getD_eq_getElem?_getD, List.getElem?_append_right (by rw [List.length_take, Sig.turned_length]; omega), List.length_take, Sig.turned_length, show i - min i target.length = 0 from by omega, List.getElem?_replicate, if_pos (by omega)]; rfl
    rw [linear_turned.l0, if_pos (by omega), if_pos (by omega), if_pos (by omega), rd_nat]
    have e : (d + 1) * (rows.length + 2) = (d * (rows.length + 2) + 1) + rows.length + 1 := by rw [Nat.succ_mul]; omega
    have := turned_l1 rows target i (target.getD i 0) (target.length : Int) (i : Int) (d * (rows.length + 2) + 1) (by omega) (fun j hj => by
      rw [hrows _ (Sig.getD_mem hj)]; omega) rows.length 0 (tt rows target i) (by omega) (by omega) hil (by omega)
    rw [e]
    refine (this.trans ?_)
    rw [List.drop_zero, tt_step (by omega), wrap_succ (by omega)]
    exact ih (i + 1) (by omega) (by omega)
theorem turned_math {rows : List (List Int)} {target : List Int} (hl1 : rows.length < 100000) (hl2 : target.length < 100000) (hrows : ∀ row ∈ rows, row.length = target.length) :
    linear_turned.f (target.length * (rows.length + 2) + 1) rows target = some (Sig.turned rows target) := by
  unfold linear_turned.f
  rw [if_pos (by omega), if_pos (by omega)]
  have := turned_l0 rows target hl1 hl2 hrows target.length 0 (by omega) (by omega)
  unfold tt at this
  rw [List.take_zero, List.nil_append, Nat.sub_zero] at this
  rw [Int.toNat_natCast]
  exact this
end Go.Proofs.Ytdbamhckgaoibaa.P
namespace Go.Proofs.Ytdbamhckgaoibaa.P
open Go.RowKit Go.Proofs.YtdbamhckgaoibaaW.PrintWords Go.Proofs.YtdbamhckgaoibaaW.PrintLast Go.Proofs.YtdbamhckgaoibaaW.PrintMore
theorem inF_ofC {l : List Int} (h : l.any outQ = false) : ∀ x ∈ l, Sig.InF x := fun x hx => by
  have := List.any_eq_false.1 h x hx
  unfold Sig.InF
  simp [outQ] at this
  omega
def goodAt (rows : List (List Int)) (owners : List Int) (i : Nat) : Bool :=
  (rows.getD i []).length != 0 && (rows.getD i []).length == (rows.getD 0 []).length && (decide (0 ≤ owners.getD i 0) && decide (owners.getD i 0 ≤ 63)) && !(rows.getD i []).any outQ
def goodFrom (rows : List (List Int)) (owners : List Int) : Nat → Nat → Bool
  | 0, _ => true
  | d + 1, i => goodAt rows owners i && goodFrom rows owners d (i + 1)
def checkP (rows : List (List Int)) (owners : List Int) : Int :=
  if decide (64 < rows.length) || rows.any isLong then 2 else if rows.length = owners.length then (if goodFrom rows owners rows.length 0 then 0 else 230) else 230
theorem rdL0 (rows : List (List Int)) : rd_L1 rows 0 = rows.getD 0 [] := rfl
theorem isPerson_math (n : Int) : program_isPerson.f n = some (decide (0 ≤ n) && decide (n ≤ 63)) := by
  unfold program_isPerson.f
  rw [within_math]; rfl
theorem check_l0 (rows : List (List Int)) (owners : List Int) (hn : rows.length < 1000000) (ho : rows.length = owners.length) (k : Nat) :
    ∀ d i, rows.length - i = d → i ≤ rows.length → program_Check.l0 (k + d + 1) rows (rows.length : Int) (i : Int) rows owners = some (if goodFrom rows owners d i then 0 else 230) := by
  intro d
  induction d with
  | zero =>
    intro i hd hi
    obtain rfl : i = rows.length := by omega
    rw [program_Check.l0, if_neg (by omega)]; rfl
  | succ d ih =>
    intro i hd hi
    rw [program_Check.l0, if_pos (by omega), if_pos (by omega), if_pos (by omega), rd_L1_nat, rd_nat, rdL0, isPerson_math, goodFrom]
    unfold goodAt
    by_cases h0 : (rows.getD i []).length = 0
    · have e0 : ((rows.getD i []).length != 0) = false := bne_eq_false_iff_eq.2 h0
      rw [if_pos (by omega), e0]; simp only [Bool.false_and, Bool.false_eq_true, if_false]
    · rw [if_neg (by omega), if_pos (by omega)]
      by_cases h1 : (rows.getD i []).length = (rows.getD 0 []).length
      · rw [if_pos (by omega), if_pos (by omega)]
        have e0 : ((rows.getD i []).length != 0) = true := bne_iff_ne.2 h0
        have e1 : ((rows.getD i []).length == (rows.getD 0 []).length) = true := beq_iff_eq.2 h1
        rw [e0, e1]
        simp only [Option.bind_some, Bool.true_and]
        cases hp : (decide (0 ≤ owners.getD i 0) && decide (owners.getD i 0 ≤ 63)) with
        | false => simp
        | true =>
          rw [if_pos rfl]
          unfold contains_odd.f
          simp only [Option.bind_some]
          cases hq : (rows.getD i []).any outQ with
          | true => simp
          | false =>
            rw [if_neg (by simp), wrap_succ (by omega), ← Nat.add_assoc, ih (i + 1) (by omega) (by omega)]
            simp
      · rw [if_neg (by omega)]
        have e1 : ((rows.getD i []).length == (rows.getD 0 []).length) = false := beq_eq_false_iff_ne.2 h1
        rw [e1]; simp
theorem check_math (rows : List (List Int)) (owners : List Int) (k : Nat) (hk : 66 ≤ k) : program_Check.f k rows owners = some (checkP rows owners) := by
  obtain ⟨k, rfl⟩ : ∃ k', k = k' + 1 := ⟨k - 1, by omega⟩
  unfold program_Check.f checkP
  by_cases h : 64 < rows.length
  · rw [if_pos (by omega), program_Check.j0, if_pos rfl]; simp [h]
  · rw [if_neg (by omega)]
    unfold contains_long.f
    simp only [Option.bind_some]
    rw [program_Check.j0]
    cases hl : rows.any isLong with
    | true => rw [if_pos rfl]; simp
    | false =>
      rw [if_neg (by simp)]
      have e : decide (64 < rows.length) = false := decide_eq_false h
      rw [e]
      by_cases ho : rows.length = owners.length
      · rw [if_pos (by omega), show k = (k - rows.length - 1) + rows.length + 1 from by omega]
        have := check_l0 rows owners (by omega) ho (k - rows.length - 1) rows.length 0 (by omega) (by omega)
        rw [show ((0 : Nat) : Int) = 0 from rfl] at this
        rw [this]
        simp [ho]
      · rw [if_neg (by omega)]
        simp [ho]
structure RightP (rows : List (List Int)) (owners : List Int) : Prop where
  few : rows.length ≤ 64
  own : rows.length = owners.length
  row : ∀ i, i < rows.length → (rows.getD i []).length ≠ 0 ∧ (rows.getD i []).length = (rows.getD 0 []).length ∧ (rows.getD i []).length ≤ 64 ∧ ∀ x ∈ rows.getD i [], Sig.InF x
  owner : ∀ i, i < rows.length → 0 ≤ owners.getD i 0 ∧ owners.getD i 0 ≤ 63
theorem goodFrom_iff (rows : List (List Int)) (owners : List Int) : ∀ d i, goodFrom rows owners d i = true ↔ ∀ j, i ≤ j → j < i + d → goodAt rows owners j = true
  | 0, i => ⟨fun _ j h1 h2 => by omega, fun _ => rfl⟩
  | d + 1, i => by
    rw [goodFrom, Bool.and_eq_true, goodFrom_iff rows owners d (i + 1)]
    constructor
    · rintro ⟨h1, h2⟩ j h3 h4
      by_cases e : j = i
      · subst e; exact h1
      · exact h2 j (by omega) (by omega)
    · exact fun h => ⟨h i (by omega) (by omega), fun j h3 h4 => h j (by omega) (by omega)⟩
theorem check_ok {rows : List (List Int)} {owners : List Int} (h : checkP rows owners = 0) : RightP rows owners := by
  unfold checkP at h
  split at h
  · cases h
  · rename_i h1
    simp only [Bool.or_eq_true, decide_eq_true_eq, not_or] at h1
    split at h
    · rename_i h2
      split at h
      · rename_i h3
        rw [goodFrom_iff] at h3
        have hg : ∀ i, i < rows.length → _ := fun i hi => by
          have := h3 i (Nat.zero_le _) (by omega)
          unfold goodAt at this
          simp only [Bool.and_eq_true, bne_iff_ne, beq_iff_eq, decide_eq_true_eq, Bool.not_eq_true'] at this
          exact this
        refine ⟨by omega, h2, fun i hi => ?_, fun i hi => ?_⟩
        · obtain ⟨⟨⟨q1, q2⟩, q3⟩, q4⟩ := hg i hi
          refine ⟨q1, q2, ?_, inF_ofC q4⟩
          have hm := Sig.getD_mem hi
          refine Nat.le_of_not_lt fun hlt => h1.2 (List.any_eq_true.2 ⟨_, hm, ?_⟩)
          unfold isLong
          exact decide_eq_true hlt
        · obtain ⟨⟨⟨q1, q2⟩, q3⟩, q4⟩ := hg i hi
          exact q3
      · cases h
    · cases h
end Go.Proofs.Ytdbamhckgaoibaa.P
namespace Go.Proofs.Ytdbamhckgaoibaa.P
open Go.RowKit
def ordQ : Nat := 1073741789
theorem isEl_nat (x : Int) : isEl x = true ↔ 1 ≤ x ∧ x < 2147483579 ∧ x.toNat ^ ordQ % 2147483579 = 1 := by
  have e : ∀ y : Nat, y ^ (2147483579 / 2) = y ^ ordQ := fun y => by rw [show 2147483579 / 2 = ordQ from rfl]
  unfold isEl
  rw [decide_eq_true_eq]
  refine ⟨fun ⟨h1, h2, h3⟩ => ⟨h1, h2, ?_⟩, fun ⟨h1, h2, h3⟩ => ⟨h1, h2, ?_⟩⟩
  · have hn : ¬ 2147483579 ∣ x.toNat := fun hd => by have := Nat.le_of_dvd (by omega) hd; omega
    rw [← e]
    exact (Sig.euler Sig.prime_P (by decide) hn).2 h3
  · have hn : ¬ 2147483579 ∣ x.toNat := fun hd => by have := Nat.le_of_dvd (by omega) hd; omega
    rw [← e] at h3
    exact (Sig.euler Sig.prime_P (by decide) hn).1 h3
theorem isEl_iff (x : Int) : isEl x = true ↔ 1 ≤ x ∧ x < 2147483579 ∧ x ^ ordQ % 2147483579 = 1 := by
  rw [isEl_nat]
  constructor
  · rintro ⟨h1, h2, h3⟩
    refine ⟨h1, h2, ?_⟩
    rw [show x = (x.toNat : Int) by omega, ← Int.natCast_pow]
    have := congrArg (fun n : Nat => (n : Int)) h3
    simpa using this
  · rintro ⟨h1, h2, h3⟩
    refine ⟨h1, h2, ?_⟩
    rw [show x = (x.toNat : Int) by omega, ← Int.natCast_pow] at h3
    omega
theorem el_of {x : Int} (h : x ^ ordQ % 2147483579 = 1) : isEl (x % 2147483579) = true := by
  rw [isEl_iff]
  have h1 : (x % 2147483579) ^ ordQ % 2147483579 = 1 := by rw [Sig.pow_emod]; exact h
  refine ⟨?_, by omega, h1⟩
  have h0 : x % 2147483579 ≠ 0 := fun h0 => by
    rw [h0, Int.zero_pow (by decide)] at h1
    omega
  omega
theorem el_one_pow {x : Int} (h : isEl x = true) : x ^ ordQ % 2147483579 = 1 := ((isEl_iff x).1 h).2.2
theorem mulmod_one {a b : Int} (ha : a % 2147483579 = 1) (hb : b % 2147483579 = 1) : a * b % 2147483579 = 1 := by
  rw [Int.mul_emod, ha, hb]; rfl
theorem el_mul {a b : Int} (ha : isEl a = true) (hb : isEl b = true) : isEl (a * b % 2147483579) = true :=
  el_of (by rw [Int.mul_pow]; exact mulmod_one (el_one_pow ha) (el_one_pow hb))
theorem pow_one_mod {x : Int} (h : x % 2147483579 = 1) (n : Nat) : x ^ n % 2147483579 = 1 := by
  rw [← Sig.pow_emod, h, Int.one_pow]; rfl
theorem el_pow {a : Int} (ha : isEl a = true) (n : Nat) : isEl (a ^ n % 2147483579) = true :=
  el_of (by rw [← Int.pow_mul, Nat.mul_comm, Int.pow_mul]; exact pow_one_mod (el_one_pow ha) n)
theorem el_pow_mod {a : Int} (ha : isEl a = true) (n : Nat) : a ^ n % 2147483579 = a ^ (n % ordQ) % 2147483579 := by
  conv => lhs; rw [← Nat.div_add_mod n ordQ, Int.pow_add, Int.pow_mul, Int.mul_emod, pow_one_mod (el_one_pow ha), Int.one_mul, Int.emod_emod]
theorem two_pow_four {m n : Nat} (h : m = 2 * n) : (2 : Nat) ^ m = 4 ^ n := by rw [h, Nat.pow_mul]
theorem el_four : isEl 4 = true := by
  have h := Sig.fermat_gen (p := 2147483579) (a := 2) Sig.prime_P (by decide) (by omega)
  rw [two_pow_four (show 2147483579 - 1 = 2 * ordQ from rfl)] at h
  have e4 : (4 : Int).toNat = 4 := rfl
  rw [isEl_nat, e4]
  exact ⟨by decide, by decide, h⟩
end Go.Proofs.Ytdbamhckgaoibaa.P
namespace Go.Proofs.Ytdbamhckgaoibaa.P
open Go.RowKit Go.Proofs.YtdbamhckgaoibaaW.PrintLast
def noDefer (ops : Array Oper) : Bool := ops.all fun o => match o.op with
  | .defer _ => false
  | _ => true
theorem semAt_plain {o : Oper} (h : (match o.op with | .defer _ => false | _ => true) = true) (ro : Option Nat) (ρ : Operand → Value) : Oper.semAt ro ρ o = execOp ρ o :=
  Oper.semAt_eq ro ρ o fun c e => by rw [e] at h; cases h
theorem wpIn_of_wp {P : Program} {l n : Nat} {o : Oper} {a : Act} {w : World} {K : Act → World → Prop} {Q : Exit → Act → World → Prop} (hd : (match o.op with | .defer _ => false | _ => true) = true) (h : o.wp P a w K Q) :
    o.wpIn (Fence.wide.inRound l) n P a w K Q := by
  refine ⟨fun _ _ => trivial, ?_⟩
  rw [semAt_plain hd]
  unfold Oper.wp at h
  revert h
  generalize (execOp a.eval o).run P w = r
  intro h
  cases r with
  | ok v w' =>
    cases v with
    | value v => exact h
    | skip => exact h
    | defer d => exact h
    | enter f args => exact ⟨(fun e => by cases e), callsIn_wide.2 h⟩
    | row row args =>
      refine ⟨(fun e => by cases e), fun c cs _ => ?_⟩
      obtain ⟨v, w2, hr, hs⟩ := h c cs
      exact ⟨v, w2, hr, stepsIn_wide.2 hs⟩
    | _ => exact h.elim
  | halt hh w' =>
    cases hh with
    | panic v => exact h
    | _ => exact h.elim
theorem wpAnyIn_of_plain {P : Program} {l n : Nat} {md : Region.Mode} {ops : Array Oper} {Q : Exit → Act → World → Prop} (hd : noDefer ops = true) (hQ : ¬ LetsOut Q) :
    ∀ (fuel : Nat) (listed : Array Bool) (a : Act) (w : World), wpAny P md ops Q fuel listed a w → wpAnyIn (Fence.wide.inRound l) n P md ops Q fuel listed a w
  | 0, _, _, _, h => h
  | fuel + 1, listed, a, w, h => by
    refine ⟨h.1, fun i hi => ?_⟩
    have h1 := wpOp_mono (fun a' w' h' => wpAnyIn_of_plain (l := l) (n := n) hd hQ fuel _ a' w' h') (h.2 i hi)
    unfold wpOp at h1
    unfold wpOpIn
    cases ho : ops[i]? with
    | none => rw [ho] at h1; exact h1
    | some o =>
      rw [ho] at h1
      simp only at h1 ⊢
      split at h1
      · rename_i hw
        rw [if_pos hw]
        rcases h1 with h1 | h1
        · refine wpIn_of_wp ?_ h1
          have := Array.all_eq_true_iff_forall_mem.1 hd o (Array.mem_of_getElem? ho)
          exact this
        · exact absurd h1.2 hQ
      · rename_i hw
        rw [if_neg hw]
        exact ⟨fun _ _ => trivial, h1⟩
theorem startIn_ {P : Program} {ops : Array Oper} {Q : Exit → Act → World → Prop} {S : World → Prop} {ds : List Nat} {l m id n : Nat} {a : Act} {w : World} (lt : Array Bool) (hm : P.follows .mixedOrders = true) (hn : ops.size = n) (hl : Array.replicate n false = lt)
    (hd : noDefer ops = true) (hQ : ¬ LetsOut Q) (hS : S w.drew)
    (h : S w.drew → wpAnyLast P .any ops Q S ds n lt a w.drew) : (Code.region id ops true).wpIn (Fence.wide.inRound l) m P Q a w := by
  subst hn
  subst hl
  exact wpIn_region_any hm (wpAnyIn_of_plain hd hQ _ _ _ _ (wpAny_of_last _ _ _ _ (h hS)))
end Go.Proofs.Ytdbamhckgaoibaa.P
namespace Go.Proofs.Ytdbamhckgaoibaa.P
open Go.RowKit Go.Proofs.YtdbamhckgaoibaaW.PrintWords Go.Proofs.YtdbamhckgaoibaaW.PrintLast Go.Proofs.YtdbamhckgaoibaaW.PrintMore
attribute [local go_sem] Oper.semAt_some
set_option linter.unusedVariables false
set_option linter.unusedSimpArgs false
theorem after_c (A : Option Addr) (n c : Nat) (col : Int) (w : World) : Calls Try.prog 185 #[.slice A n c, .int .i64 col] w fun e w' =>
    e = .returned (.func (.func 206) #[] #[.pointer (some ⟨w.heap.size + 1, 0, none⟩), .pointer (some ⟨w.heap.size, 0, none⟩)]) ∧ w' = (w.alloc (.cells #[.slice A n c] 23)).alloc (.cells #[.int .i64 col] 3) := by
  go_enter Try.func185, Try.ntmps185
  go_wp2
  go_ret
  exact ⟨by first | rfl | (simp; done) | (simp; rfl), rfl⟩
set_option maxHeartbeats 1000000 in
theorem after1_in {l : Nat} {J : Nat → World → Prop} {bcol brow br col L cap : Nat} {x : Nat → Int} (hL : L ≤ 9223372036854775807)
    (hJ : ∀ k W, J k W → Bx W bcol (.int .i64 (col : Int)) ∧ Bx W brow (.slice (some ⟨br, 0, none⟩) L cap) ∧ (k < L → W.cell? ⟨br, k, none⟩ = some (.int .i64 (x k))))
    (hY : ∀ k W, k < L → J k W → YieldAt Fence.wide 7 Try.prog l #[.int .i64 (k : Int), .int .i64 (x k)] W fun e W' => e = .returned (.bool true) ∧ J (k + 1) W')
    (hc : col ≤ L) (W : World) (h0 : J col W) :
    CallsIn Fence.wide 8 Try.prog 206 #[.func (.yield l) #[] #[], .pointer (some ⟨bcol, 0, none⟩), .pointer (some ⟨brow, 0, none⟩)] W fun e W' => (∃ v, e = .returned v) ∧ J L W' := by
  refine callsIn_of_wp Try.func206 rfl trivial ?_ rfl
  simp only [Try.ntmps206, List.size_toArray, List.length_cons, List.length_nil, Nat.reduceAdd, Nat.reduceSub, Array.replicate_succ, Array.replicate_zero, List.push_toArray, List.append_toArray, List.nil_append, List.cons_append]
  obtain ⟨⟨c1, c2⟩, _, _⟩ := hJ _ _ h0
  gi_wp2
  gi_loopg [4] (L - col) (fun gk v4 wr => ∃ k : Nat, k ≤ L ∧ gk = L - k ∧ v4 = .int .i64 (k : Int) ∧ J k wr)
  case atStart => exact ⟨col, hc, rfl, rfl, h0⟩
  case round =>
    obtain ⟨k, hk, rfl, rfl, hj⟩ := hrel
    obtain ⟨_, ⟨r1, r2⟩, r3⟩ := hJ _ _ hj
    by_cases hlt : k < L
    · have b1 : decide ((k : Int) < (L : Int)) = true := decide_eq_true (by omega)
      have b2 : decide (k < L) = true := decide_eq_true hlt
      have b3 : (0 : Int) ≤ (k : Int) := by omega
      have r4 := r3 hlt
      obtain ⟨fn, tmps, assign, body, hy, hR⟩ := hY k wr hlt hj
      clear r3
      gi_wp2
      refine hR.mono ?_
      rintro e W' ⟨rfl, hj2⟩
      clear r1 r2 r4
      gi_wp2
      gi_roundg (L - (k + 1))
      case measure => omega
      case rel => exact ⟨k + 1, by omega, rfl, by go_num, hj2⟩
    · have b1 : decide ((k : Int) < (L : Int)) = false := decide_eq_false (by omega)
      have b2 : decide (k < L) = false := decide_eq_false hlt
      obtain rfl : k = L := by omega
      gi_wp2
      go_end0
      exact ⟨⟨_, rfl⟩, hj⟩
theorem less_zero {a b : List Int} (ha : ∀ x ∈ a, Sig.InF x) (h : a.length = b.length) : Sig.less a b 0 = a := by
  apply List.ext_getElem
  · exact Sig.less_length h
  · intro i h1 h2
    have hx := ha _ (List.getElem_mem h2)
    unfold Sig.InF at hx
    have e : (Sig.less a b 0)[i] = (a[i] - 0 * b[i]'(by omega)) % 1073741789 := List.getElem_zipWith
    rw [e]
    omega
theorem set_self_row (t : List (List Int)) (i : Nat) : t.set i (t.getD i []) = t := by
  apply List.ext_getElem
  · simp
  · intro k h1 h2
    rw [List.getElem_set]
    split
    · rename_i e; subst e; rw [List.getD_eq_getElem?_getD, List.getElem?_eq_getElem h2]; rfl
    · rfl
def mixRow (a b : List Int) (k : Nat) : List Int := b.take k ++ a.drop k
theorem mixRow_length {a b : List Int} {k : Nat} (h : a.length = b.length) : (mixRow a b k).length = a.length := by simp [mixRow]; omega
theorem mixRow_at {a b : List Int} {k j : Nat} (h : a.length = b.length) (hj : j < a.length) : (mixRow a b k).getD j 0 = if j < k then b.getD j 0 else a.getD j 0 := by
  unfold mixRow
  rw [List.getD_eq_getElem?_getD, List.getElem?_append]
  have hl : (b.take k).length = min k b.length := List.length_take
  by_cases e : j < k
  · rw [if_pos (by omega), if_pos e, List.getElem?_take_of_lt e, ← List.getD_eq_getElem?_getD]
  · rw [if_neg (by omega), if_neg e, List.getElem?_drop, List.getD_eq_getElem?_getD]
    congr 2
    omega
theorem mixRow_set {a b : List Int} {k : Nat} (h : a.length = b.length) (hk : k < a.length) : (mixRow a b k).set k (b.getD k 0) = mixRow a b (k + 1) := by
  have e : ∀ (l : List Int) j, j < l.length → l[j]? = some (l.getD j 0) := fun l j hj => by rw [List.getD_eq_getElem?_getD, List.getElem?_eq_getElem hj]; rfl
  apply List.ext_getElem?
  intro j
  rcases Nat.lt_or_ge j a.length with hj | hj
  · rw [e _ j (by rw [List.length_set, mixRow_length h]; exact hj), e _ j (by rw [mixRow_length h]; exact hj), Sig.getD_set_int, mixRow_at h hj, mixRow_at h hj, mixRow_length h]
    congr 1
    by_cases e1 : k = j
    · subst e1; rw [if_pos ⟨rfl, hk⟩, if_pos (by omega)]
    · rw [if_neg (fun h' => e1 h'.1)]
      by_cases e2 : j < k
      · rw [if_pos e2, if_pos (by omega)]
      · rw [if_neg e2, if_neg (by omega)]
  · rw [List.getElem?_eq_none (by rw [List.length_set, mixRow_length h]; exact hj), List.getElem?_eq_none (by rw [mixRow_length h]; exact hj)]
theorem mixRow_all {a b : List Int} (h : a.length = b.length) : mixRow a b a.length = b := by
  unfold mixRow
  rw [List.drop_of_length_le (Nat.le_refl _), List.append_nil, List.take_of_length_le (by omega)]
theorem mixRow_start {a b : List Int} {k : Nat} (h : a.length = b.length) (he : ∀ d, d < k → d < a.length → b.getD d 0 = a.getD d 0) : mixRow a b k = a := by
  have e : ∀ (l : List Int) j, j < l.length → l[j]? = some (l.getD j 0) := fun l j hj => by rw [List.getD_eq_getElem?_getD, List.getElem?_eq_getElem hj]; rfl
  apply List.ext_getElem?
  intro j
  rcases Nat.lt_or_ge j a.length with hj | hj
  · rw [e _ j (by rw [mixRow_length h]; exact hj), e _ j hj, mixRow_at h hj]
    congr 1
    split
    · exact he j (by omega) hj
    · rfl
  · rw [List.getElem?_eq_none (by rw [mixRow_length h]; exact hj), List.getElem?_eq_none hj]
theorem less_start {a b : List Int} {n : Int} {k : Nat} (ha : ∀ x ∈ a, Sig.InF x) (h : a.length = b.length) (hz : ∀ d, d < k → b.getD d 0 = 0) : mixRow a (Sig.less a b n) k = a := by
  refine mixRow_start (Sig.less_length h).symm fun d hd hd2 => ?_
  have hx := Sig.getD_inF ha d
  unfold Sig.InF at hx
  rw [Sig.less_getD h hd2, hz d hd]
  omega
def CI (w : World) (base g : Nat) (bs : List Nat) (t : List (List Int)) (i : Nat) (a b : List Int) (B4 B5 B8 B9 B10 : Nat) (v4 v5 v8 v9 v10 : Value) (k : Nat) (W : World) : Prop :=
  Tab W base g bs (t.set i (mixRow a b k)) ∧ Bx W B4 v4 ∧ Bx W B5 v5 ∧ Bx W B8 v8 ∧ Bx W B9 v9 ∧ Bx W B10 v10 ∧ Chg (fun k => k = bs.getD i 0) w W
set_option maxHeartbeats 2000000 in
theorem clear_zero (w : World) (base g cap : Nat) (bs : List Nat) (t : List (List Int)) (i bY c n : Nat) (hT : Tab w base g bs t) (hi : i < t.length) (hn : (t.getD i []).length = n) (hc : c < n) (hz : Sig.ent t i c = 0) (hb : base ≤ w.heap.size) (hcap : t.length ≤ cap) :
    Calls Try.prog 186 #[.slice (some ⟨g, 0, none⟩) t.length cap, .int .i64 (i : Int), .int .i64 (bY : Int), .int .i64 (c : Int)] w fun e w' => e = .returned (.tuple #[]) ∧ Below w.heap.size w w' := by
  obtain ⟨⟨cr, m1, m2⟩, m3⟩ := hT.main i hi
  obtain ⟨q1, q2⟩ := hT.rows i hi c (by omega)
  have q3 : (t.getD i []).getD c 0 = 0 := hz
  rw [q3] at q1
  rw [hn] at m2
  have f1 : (0 : Int) ≤ (i : Int) := by omega
  have f2 : decide (i < t.length) = true := decide_eq_true hi
  have f3 : (i : Int) < (t.length : Int) := by omega
  have f4 : (0 : Int) ≤ (c : Int) := by omega
  have f5 : (c : Int) < (n : Int) := by omega
  have f6 : decide (c < n) = true := decide_eq_true hc
  have hg := World.block_lt_of_cell? w _ m2
  have hg2 := World.block_lt_of_cell? w _ q1
  clear q3 hz m3 q2 hT hn hc
  generalize bs.getD i 0 = bi at m2 q1 hg2
  go_enter Try.func186, Try.ntmps186
  go_wp2
  exact bodyPost_ret (results_none rfl _ _ _) rfl ⟨rfl, (((Below.refl _ w).alloc (Nat.le_refl _) _).alloc (by simp) _).alloc (by simp; omega) _⟩
theorem keeps_below {W W' : World} (h : Below W.heap.size W W') : KeepsOthers W W' := ⟨h.size, fun k o hk _ => (h.block k (Array.getElem?_eq_some_iff.1 hk).1).trans hk⟩
theorem neg_wrap (a y : Int) : (a + wrap64 (-(y % 1073741789))) % 1073741789 = (a - y) % 1073741789 := by
  have h1 : 0 ≤ y % 1073741789 ∧ y % 1073741789 < 1073741789 := by omega
  have h2 : wrap64 (-(y % 1073741789)) = -(y % 1073741789) := by unfold wrap64; omega
  rw [h2]
  omega
theorem CI.own (w : World) (base g : Nat) (bs : List Nat) (t : List (List Int)) (i : Nat) (a b : List Int) (B4 B5 B8 B9 B10 : Nat) (v4 v5 v8 v9 v10 : Value) {B : Nat} (hB : w.heap.size ≤ B) :
    OwnFrom B (CI w base g bs t i a b B4 B5 B8 B9 B10 v4 v5 v8 v9 v10) := by
  rintro k W W' row ⟨h0, h1, h2, h3, h4, h5, h6⟩ hg hr
  have hr' : ∀ r, row = some r → ∃ o : Obj, W.heap[r]? = some o ∧ o.isCells = false := fun r e => (hr r e).2
  exact ⟨h0.kept hg hr', h1.kept hg hr', h2.kept hg hr', h3.kept hg hr', h4.kept hg hr', h5.kept hg hr', h6.then_grown hg (fun k e => .inr (Nat.le_trans hB (hr k e).1))⟩
set_option maxRecDepth 100000 in
set_option maxHeartbeats 4000000 in
theorem clear_some (w : World) (base g cap : Nat) (bs : List Nat) (t : List (List Int)) (i bY c n : Nat) (hT : Tab w base g bs t) (hR : Sig.Rect t n) (hi : i < t.length) (hy : bY < t.length) (hne : i ≠ bY) (hc : c < n) (hn2 : n ≤ 9223372036854775807)
    (hz : ∀ d, d < c → Sig.ent t bY d = 0) (hb : base ≤ w.heap.size) (hz0 : Sig.ent t i c ≠ 0) :
    Calls Try.prog 186 #[.slice (some ⟨g, 0, none⟩) t.length cap, .int .i64 (i : Int), .int .i64 (bY : Int), .int .i64 (c : Int)] w fun e w' => e = .returned (.tuple #[]) ∧
      Tab w' base g bs (t.set i (Sig.less (t.getD i []) (t.getD bY []) (Sig.ent t i c))) ∧ Chg (fun k => k = bs.getD i 0) w w' := by
  have hni := (hR _ (Sig.getD_mem hi)).1
  have hny := (hR _ (Sig.getD_mem hy)).1
  have hIi := (hR _ (Sig.getD_mem hi)).2
  obtain ⟨⟨cr, m1, m2⟩, m3⟩ := hT.main i hi
  obtain ⟨⟨cy, y1, y2⟩, y3⟩ := hT.main bY hy
  obtain ⟨q1, q2⟩ := hT.rows i hi c (by omega)
  have HLs := Aside0.mk (less_start (n := Sig.ent t i c) hIi (hni.trans hny.symm) hz)
  have hlen : (t.getD i []).length = (Sig.less (t.getD i []) (t.getD bY []) (Sig.ent t i c)).length := (Sig.less_length (hni.trans hny.symm)).symm
  have hLx : ∀ k, k < n → (Sig.less (t.getD i []) (t.getD bY []) (Sig.ent t i c)).getD k 0 = ((t.getD i []).getD k 0 - Sig.ent t i c * (t.getD bY []).getD k 0) % 1073741789 := fun k hk => Sig.less_getD (hni.trans hny.symm) (by omega)
  generalize hlL : Sig.less (t.getD i []) (t.getD bY []) (Sig.ent t i c) = L at *
  have q0 : (t.getD i []).getD c 0 = Sig.ent t i c := rfl
  rw [q0] at q1
  generalize Sig.ent t i c = nv at *
  rw [hni] at m2
  rw [hny] at y2
  have f1 : (0 : Int) ≤ (i : Int) := by omega
  have f2 : decide (i < t.length) = true := decide_eq_true hi
  have f3 : (i : Int) < (t.length : Int) := by omega
  have f4 : (0 : Int) ≤ (c : Int) := by omega
  have f5 : (c : Int) < (n : Int) := by omega
  have f6 : decide (c < n) = true := decide_eq_true hc
  have f7 : (0 : Int) ≤ (bY : Int) := by omega
  have f8 : decide (bY < t.length) = true := decide_eq_true hy
  have f9 : (bY : Int) < (t.length : Int) := by omega
  have hg := World.block_lt_of_cell? w _ m2
  have hg2 := World.block_lt_of_cell? w _ q1
  have hgy := World.block_lt_of_cell? w _ y2
  have HT := Aside0.mk hT
  have HR := Aside0.mk hR
  have HLx := Aside0.mk hLx
  have HBI := Aside0.mk (show bs.getD i 0 = bs.getD i 0 from rfl)
  have hrowb : ∀ m, m < t.length → bs.getD m 0 < w.heap.size := fun m hm => by
    have h1 := (hR _ (Sig.getD_mem hm)).1
    exact World.block_lt_of_cell? w _ (hT.rows m hm 0 (by omega)).1
  have HRB := Aside0.mk hrowb
  have HQL := Aside0.mk hlL
  clear q0 m3 q2 y3 hT hR hLx hrowb hlL hIi
  obtain ⟨bi, hbi⟩ : ∃ bi, bi = bs.getD i 0 := ⟨_, rfl⟩
  obtain ⟨bY', hbY⟩ : ∃ bY', bY' = bs.getD bY 0 := ⟨_, rfl⟩
  rw [← hbi] at m2 q1 hg2
  rw [← hbY] at y2
  have Hbi := Aside0.mk hbi
  have HbY := Aside0.mk hbY
  have Hni := Aside0.mk hni
  have Hny := Aside0.mk hny
  have Hlen := Aside0.mk hlen
  clear hbi hbY hni hny hlen
  refine (callsIn_wide (n := 9)).1 ?_
  refine callsIn_of_wp_marks Try.func186 rfl trivial ?_ rfl
  simp only [Try.ntmps186, List.size_toArray, List.length_cons, List.length_nil, Nat.reduceAdd, Nat.reduceSub, Array.replicate_succ, Array.replicate_zero, List.push_toArray, List.append_toArray, List.nil_append, List.cons_append]
  have hzb : (nv == 0) = false := beq_eq_false_iff_ne.2 hz0
  clear hz0
  have hgA : g < w.heap.size + 1 := Nat.lt_succ_of_lt hg
  have hgB : g < w.heap.size + 1 + 1 := Nat.lt_succ_of_lt hgA
  gi_wp2_with (refine ⟨trivial, ?_⟩; gi_at_call 185; refine (callsIn_wide.2 (after_c _ _ _ _ _)).mono ?_; rintro e w' ⟨rfl, rfl⟩)
  obtain ⟨W1, hW1⟩ : ∃ W1, ((w.alloc (.cells #[.slice (some ⟨g, 0, none⟩) t.length cap] 134)).alloc (.cells #[.int .i64 (i : Int)] 3)).alloc (.cells #[.int .i64 nv] 3) = W1 := ⟨_, rfl⟩
  rw [hW1]
  obtain ⟨W0, hW0⟩ : ∃ W0, (W1.alloc (.cells #[.slice (some ⟨bY', 0, none⟩) n cy] 23)).alloc (.cells #[.int .i64 (c : Int)] 3) = W0 := ⟨_, rfl⟩
  rw [hW0]
  have z1 : W1.heap.size = w.heap.size + 1 + 1 + 1 := by rw [← hW1]; simp
  have z0 : W0.heap.size = w.heap.size + 1 + 1 + 1 + 1 + 1 := by rw [← hW0]; simp [z1]
  have hB1 : Below w.heap.size w W1 := by rw [← hW1]; exact ((((Below.refl _ w).alloc (Nat.le_refl _) _).alloc (by simp) _).alloc (by simp; omega) _)
  have b4 : Bx W0 w.heap.size (.slice (some ⟨g, 0, none⟩) t.length cap) := by
    rw [← hW0, ← hW1]; exact ((((Bx.new w _ _).alloc _).alloc _).alloc _).alloc _
  have b5 : Bx W0 (w.heap.size + 1) (.int .i64 (i : Int)) := by
    rw [← hW0, ← hW1]; have := (((Bx.new (w.alloc (.cells #[.slice (some ⟨g, 0, none⟩) t.length cap] 134)) (.int .i64 (i : Int)) 3).alloc (.cells #[.int .i64 nv] 3)).alloc (.cells #[.slice (some ⟨bY', 0, none⟩) n cy] 23)).alloc (.cells #[.int .i64 (c : Int)] 3); simpa using this
  have b8 : Bx W0 (w.heap.size + 1 + 1) (.int .i64 nv) := by
    rw [← hW0, ← hW1]; have := ((Bx.new ((w.alloc (.cells #[.slice (some ⟨g, 0, none⟩) t.length cap] 134)).alloc (.cells #[.int .i64 (i : Int)] 3)) (.int .i64 nv) 3).alloc (.cells #[.slice (some ⟨bY', 0, none⟩) n cy] 23)).alloc (.cells #[.int .i64 (c : Int)] 3); simpa using this
  have b9 : Bx W0 (w.heap.size + 1 + 1 + 1) (.slice (some ⟨bY', 0, none⟩) n cy) := by
    rw [← hW0, ← z1]; exact (Bx.new W1 _ _).alloc _
  have b10 : Bx W0 (w.heap.size + 1 + 1 + 1 + 1) (.int .i64 (c : Int)) := by
    rw [← hW0, ← z1]; have := Bx.new (W1.alloc (.cells #[.slice (some ⟨bY', 0, none⟩) n cy] 23)) (.int .i64 (c : Int)) 3; simpa using this
  have hB0 : Below w.heap.size w W0 := by rw [← hW0]; exact (hB1.alloc (by omega) _).alloc (by simp; omega) _
  have HZ := Aside0.mk z0
  have HB0 := Aside0.mk hB0
  have h0 : CI w base g bs t i (t.getD i []) L w.heap.size (w.heap.size + 1) (w.heap.size + 1 + 1) (w.heap.size + 1 + 1 + 1) (w.heap.size + 1 + 1 + 1 + 1) (.slice (some ⟨g, 0, none⟩) t.length cap) (.int .i64 (i : Int)) (.int .i64 nv) (.slice (some ⟨bY', 0, none⟩) n cy) (.int .i64 (c : Int)) c W0 := by
    refine ⟨?_, b4, b5, b8, b9, b10, Chg.of_below hB0⟩
    rw [HLs.out, set_self_row]
    exact HT.out.below hB0
  have H0 := Aside0.mk h0
  clear h0 hB0 hB1 hW0 hW1 b4 b5 b8 b9 b10 z0 z1 q1 m2 y2
  refine range_all (by omega) rfl (enters_of Try.func206 (by kernel_rfl) rfl)
    (CI w base g bs t i (t.getD i []) L w.heap.size (w.heap.size + 1) (w.heap.size + 1 + 1) (w.heap.size + 1 + 1 + 1) (w.heap.size + 1 + 1 + 1 + 1) (.slice (some ⟨g, 0, none⟩) t.length cap) (.int .i64 (i : Int)) (.int .i64 nv) (.slice (some ⟨bY', 0, none⟩) n cy) (.int .i64 (c : Int))) c (fun k => k = n)
    (fun k vs k' => k < n ∧ vs = #[.int .i64 (k : Int), .int .i64 ((t.getD bY []).getD k 0)] ∧ k' = k + 1) ?_ H0.out ?_ ?_ ?_ ?_
  · exact CI.own _ _ _ _ _ _ _ _ _ _ _ _ _ _ _ _ _ _ (by rw [HZ.out]; omega)
  · rintro k vs k' ⟨_, rfl, _⟩; rfl
  · intro l W2 J _ hJI hJ hY hj0
    refine (after1_in (l := l) (J := J) (bcol := w.heap.size + 1 + 1 + 1 + 1) (brow := w.heap.size + 1 + 1 + 1) (br := bY') (col := c) (L := n) (cap := cy) (x := fun k => (t.getD bY []).getD k 0) hn2 (fun k W hj => ?_) (fun k W hk hj => hY k _ _ W ⟨hk, rfl, rfl⟩ hj) (by omega) W2 hj0).mono (fun e W' h => ⟨h.1, n, rfl, h.2⟩)
    obtain ⟨hT2, _, _, _, c9, c10, _⟩ := hJI k W hj
    refine ⟨c10, c9, fun hk => ?_⟩
    have hr := hT2.rows bY (by simpa using hy)
    rw [getD_set_row hi, if_neg hne] at hr
    rw [HbY.out]
    exact (hr k (by rw [Hny.out]; exact hk)).1
  · rintro l k vs k' W ⟨hk, rfl, rfl⟩ hI
    have HI := Aside0.mk hI
    clear hI
    have hLk := HLx.out k hk
    obtain ⟨xk, hxk⟩ : ∃ xk, xk = (t.getD bY []).getD k 0 := ⟨_, rfl⟩
    obtain ⟨ak, hak⟩ : ∃ ak, ak = (t.getD i []).getD k 0 := ⟨_, rfl⟩
    rw [← hxk, ← hak] at hLk
    rw [← hxk]
    have HLk := Aside0.mk hLk
    have Hak := Aside0.mk hak
    clear hLk hxk hak
    gi_wp2
    refine ⟨KeepsFrom.refl _ _, HI.out, ?_⟩
    clear HI
    rintro W2 ⟨hT2, d4, d5, d8, d9, d10, hB2⟩
    obtain ⟨⟨cr2, m1', m2⟩, _⟩ := hT2.main i (by simpa using hi)
    have hmr : ((t.set i (mixRow (t.getD i []) L k)).getD i []) = mixRow (t.getD i []) L k := by rw [getD_set_row hi, if_pos rfl]
    have hml : (mixRow (t.getD i []) L k).length = n := by rw [mixRow_length Hlen.out]; exact Hni.out
    obtain ⟨q1, q2⟩ := hT2.rows i (by simpa using hi) k (by rw [hmr, hml]; exact hk)
    rw [hmr, hml] at m2
    rw [hmr, mixRow_at Hlen.out (by rw [Hni.out]; exact hk), if_neg (by omega), ← Hak.out] at q1
    rw [← Hbi.out] at m2 q1 q2
    have hbk := World.block_lt_of_cell? W2 _ q1
    have HT2 := Aside0.mk hT2
    have HB2 := Aside0.mk hB2
    have Hml := Aside0.mk hml
    have Hmr := Aside0.mk hmr
    have Hd := Aside0.mk (And.intro d4 (And.intro d5 (And.intro d8 (And.intro d9 d10))))
    have e4 := d4.1
    have e5 := d5.1
    have e8 := d8.1
    have g1 : (0 : Int) ≤ (k : Int) := by omega
    have g2 : (k : Int) < (n : Int) := by omega
    have g3 : decide (k < n) = true := decide_eq_true hk
    clear hT2 hB2 hml hmr d4 d5 d8 d9 d10 m1'
    gi_wp2
    refine startIn_ (n := 19) (S := fun w' => w'.cell? ⟨w.heap.size, 0, none⟩ = some (.slice (some ⟨g, 0, none⟩) t.length cap) ∧ w'.cell? ⟨w.heap.size + 1, 0, none⟩ = some (.int .i64 (i : Int)) ∧ w'.cell? ⟨g, i, none⟩ = some (.slice (some ⟨bi, 0, none⟩) n cr2) ∧ w'.cell? ⟨bi, k, none⟩ = some (.int .i64 ak) ∧ w'.cell? ⟨w.heap.size + 1 + 1, 0, none⟩ = some (.int .i64 nv)) (ds := [18]) #[false, false, false, false, false, false, false, false, false, false, false, false, false, false, false, false, false, false, false] (by kernel_rfl) rfl rfl (by kernel_rfl) (fun h => by obtain ⟨_, _, h⟩ := h; exact h) ⟨e4, e5, m2, q1, e8⟩ (fun hHeld => ?_)
    have hW2d : Below W2.heap.size W2 W2.drew := (Below.refl _ _).drew
    generalize W2.drew = W3 at hHeld hW2d ⊢
    clear e4 e5 e8 m2
    refine take_ (i := 0) (N := some 28) (v := ?_) (a' := ?_) #[true, false, false, false, false, false, false, false, false, false, false, false, false, false, false, false, false, false, false] rfl rfl (by kernel_rfl) (fun _ _ _ h => h) (Or.inl ⟨by rfl, ?_⟩) hHeld ?_ ?_
    rotate_left
    · rintro w' ⟨s0, s1, s2, s3, s4⟩
      go_simp
      with_reducible rfl
    rotate_left
    · simp only [Act.put, List.setIfInBounds_toArray, List.set_cons_zero, List.set_cons_succ, i64_w, i32_w]
      rfl
    refine take_ (i := 1) (N := some 29) (v := ?_) (a' := ?_) #[true, true, false, false, false, false, false, false, false, false, false, false, false, false, false, false, false, false, false] rfl rfl (by kernel_rfl) (fun _ _ _ h => h) (Or.inl ⟨by rfl, ?_⟩) hHeld ?_ ?_
    rotate_left
    · rintro w' ⟨s0, s1, s2, s3, s4⟩
      go_simp
      with_reducible rfl
    rotate_left
    · simp only [Act.put, List.setIfInBounds_toArray, List.set_cons_zero, List.set_cons_succ, i64_w, i32_w]
      rfl
    refine pure_ (i := 2) (N := some 30) (v := ?_) (a' := ?_) #[true, true, true, false, false, false, false, false, false, false, false, false, false, false, false, false, false, false, false] rfl rfl (by kernel_rfl) (fun _ _ _ h => h) (Or.inl ⟨by rfl, ?_⟩) ?_ ?_
    rotate_left
    · intro w'
      go_simp
      with_reducible rfl
    rotate_left
    · simp only [Act.put, List.setIfInBounds_toArray, List.set_cons_zero, List.set_cons_succ, i64_w, i32_w]
      rfl
    refine take_ (i := 3) (N := some 31) (v := ?_) (a' := ?_) #[true, true, true, true, false, false, false, false, false, false, false, false, false, false, false, false, false, false, false] rfl rfl (by kernel_rfl) (fun _ _ _ h => h) (Or.inl ⟨by rfl, ?_⟩) hHeld ?_ ?_
    rotate_left
    · rintro w' ⟨s0, s1, s2, s3, s4⟩
      go_simp
      with_reducible rfl
    rotate_left
    · simp only [Act.put, List.setIfInBounds_toArray, List.set_cons_zero, List.set_cons_succ, i64_w, i32_w]
      rfl
    refine pure_ (i := 4) (N := some 32) (v := ?_) (a' := ?_) #[true, true, true, true, true, false, false, false, false, false, false, false, false, false, false, false, false, false, false] rfl rfl (by kernel_rfl) (fun _ _ _ h => h) (Or.inl ⟨by rfl, ?_⟩) ?_ ?_
    rotate_left
    · intro w'
      go_simp
      with_reducible rfl
    rotate_left
    · simp only [Act.put, List.setIfInBounds_toArray, List.set_cons_zero, List.set_cons_succ, i64_w, i32_w]
      rfl
    refine take_ (i := 5) (N := some 33) (v := ?_) (a' := ?_) #[true, true, true, true, true, true, false, false, false, false, false, false, false, false, false, false, false, false, false] rfl rfl (by kernel_rfl) (fun _ _ _ h => h) (Or.inl ⟨by rfl, ?_⟩) hHeld ?_ ?_
    rotate_left
    · rintro w' ⟨s0, s1, s2, s3, s4⟩
      go_simp
      with_reducible rfl
    rotate_left
    · simp only [Act.put, List.setIfInBounds_toArray, List.set_cons_zero, List.set_cons_succ, i64_w, i32_w]
      rfl
    refine take_ (i := 6) (N := some 34) (v := ?_) (a' := ?_) #[true, true, true, true, true, true, true, false, false, false, false, false, false, false, false, false, false, false, false] rfl rfl (by kernel_rfl) (fun _ _ _ h => h) (Or.inl ⟨by rfl, ?_⟩) hHeld ?_ ?_
    rotate_left
    · rintro w' ⟨s0, s1, s2, s3, s4⟩
      go_simp
      with_reducible rfl
    rotate_left
    · simp only [Act.put, List.setIfInBounds_toArray, List.set_cons_zero, List.set_cons_succ, i64_w, i32_w]
      rfl
    refine pure_ (i := 7) (N := some 35) (v := ?_) (a' := ?_) #[true, true, true, true, true, true, true, true, false, false, false, false, false, false, false, false, false, false, false] rfl rfl (by kernel_rfl) (fun _ _ _ h => h) (Or.inl ⟨by rfl, ?_⟩) ?_ ?_
    rotate_left
    · intro w'
      go_simp
      with_reducible rfl
    rotate_left
    · simp only [Act.put, List.setIfInBounds_toArray, List.set_cons_zero, List.set_cons_succ, i64_w, i32_w]
      rfl
    refine take_ (i := 8) (N := some 36) (v := ?_) (a' := ?_) #[true, true, true, true, true, true, true, true, true, false, false, false, false, false, false, false, false, false, false] rfl rfl (by kernel_rfl) (fun _ _ _ h => h) (Or.inl ⟨by rfl, ?_⟩) hHeld ?_ ?_
    rotate_left
    · rintro w' ⟨s0, s1, s2, s3, s4⟩
      go_simp
      with_reducible rfl
    rotate_left
    · simp only [Act.put, List.setIfInBounds_toArray, List.set_cons_zero, List.set_cons_succ, i64_w, i32_w]
      rfl
    refine pure_ (i := 9) (N := some 37) (v := ?_) (a' := ?_) #[true, true, true, true, true, true, true, true, true, true, false, false, false, false, false, false, false, false, false] rfl rfl (by kernel_rfl) (fun _ _ _ h => h) (Or.inl ⟨by rfl, ?_⟩) ?_ ?_
    rotate_left
    · intro w'
      go_simp
      with_reducible rfl
    rotate_left
    · simp only [Act.put, List.setIfInBounds_toArray, List.set_cons_zero, List.set_cons_succ, i64_w, i32_w]
      rfl
    refine pure_ (i := 10) (N := some 38) (v := ?_) (a' := ?_) #[true, true, true, true, true, true, true, true, true, true, true, false, false, false, false, false, false, false, false] rfl rfl (by kernel_rfl) (fun _ _ _ h => h) (Or.inl ⟨by rfl, ?_⟩) ?_ ?_
    rotate_left
    · intro w'
      go_simp
      with_reducible rfl
    rotate_left
    · simp only [Act.put, List.setIfInBounds_toArray, List.set_cons_zero, List.set_cons_succ, i64_w, i32_w]
      rfl
    refine take_ (i := 11) (N := some 39) (v := ?_) (a' := ?_) #[true, true, true, true, true, true, true, true, true, true, true, true, false, false, false, false, false, false, false] rfl rfl (by kernel_rfl) (fun _ _ _ h => h) (Or.inl ⟨by rfl, ?_⟩) hHeld ?_ ?_
    rotate_left
    · rintro w' ⟨s0, s1, s2, s3, s4⟩
      go_simp
      with_reducible rfl
    rotate_left
    · simp only [Act.put, List.setIfInBounds_toArray, List.set_cons_zero, List.set_cons_succ, i64_w, i32_w]
      rfl
    refine take_ (i := 12) (N := some 40) (v := ?_) (a' := ?_) #[true, true, true, true, true, true, true, true, true, true, true, true, true, false, false, false, false, false, false] rfl rfl (by kernel_rfl) (fun _ _ _ h => h) (Or.inl ⟨by rfl, ?_⟩) hHeld ?_ ?_
    rotate_left
    · rintro w' ⟨s0, s1, s2, s3, s4⟩
      go_simp
      with_reducible rfl
    rotate_left
    · simp only [Act.put, List.setIfInBounds_toArray, List.set_cons_zero, List.set_cons_succ, i64_w, i32_w]
      rfl
    refine pure_ (i := 13) (N := some 41) (v := ?_) (a' := ?_) #[true, true, true, true, true, true, true, true, true, true, true, true, true, true, false, false, false, false, false] rfl rfl (by kernel_rfl) (fun _ _ _ h => h) (Or.inl ⟨by rfl, ?_⟩) ?_ ?_
    rotate_left
    · intro w'
      go_simp
      with_reducible rfl
    rotate_left
    · simp only [Act.put, List.setIfInBounds_toArray, List.set_cons_zero, List.set_cons_succ, i64_w, i32_w]
      rfl
    refine one_ (i := 14) (N := some 42) #[true, true, true, true, true, true, true, true, true, true, true, true, true, true, true, false, false, false, false] rfl rfl (by kernel_rfl) (by decide) (fun K hK => ?_)
    refine goes_ Try.func65 (by kernel_rfl) rfl #[.int .i64 nv, .int .i64 xk] (by rfl) rfl rfl (by (try simp only [List.map_toArray, List.map_cons, List.map_nil]); first | done | rfl) ?_
    refine (mul_c _ _ _).mono ?_
    rintro e w' ⟨rfl, ⟨nd, rfl⟩⟩
    refine ⟨_, rfl, hK.out _ _ ⟨pw_cell_below (pw_below_drewN (Below.refl _ _) _) hHeld.1, pw_cell_below (pw_below_drewN (Below.refl _ _) _) hHeld.2.1, pw_cell_below (pw_below_drewN (Below.refl _ _) _) hHeld.2.2.1, pw_cell_below (pw_below_drewN (Below.refl _ _) _) hHeld.2.2.2.1, pw_cell_below (pw_below_drewN (Below.refl _ _) _) hHeld.2.2.2.2⟩ (fun hHeld => ?_)⟩
    clear hK K
    refine pure_ (i := 15) (N := some 43) (v := ?_) (a' := ?_) #[true, true, true, true, true, true, true, true, true, true, true, true, true, true, true, true, false, false, false] rfl rfl (by kernel_rfl) (fun _ _ _ h => h) (Or.inl ⟨by rfl, ?_⟩) ?_ ?_
    rotate_left
    · intro w'
      go_simp
      with_reducible rfl
    rotate_left
    · simp only [Act.put, List.setIfInBounds_toArray, List.set_cons_zero, List.set_cons_succ, i64_w, i32_w]
      rfl
    refine one_ (i := 16) (N := some 44) #[true, true, true, true, true, true, true, true, true, true, true, true, true, true, true, true, true, false, false] rfl rfl (by kernel_rfl) (by decide) (fun K hK => ?_)
    refine goes_ Try.func36 (by kernel_rfl) rfl #[.int .i64 ak, .int .i64 (wrap64 (-(nv * xk % 1073741789)))] (by rfl) rfl rfl (by (try simp only [List.map_toArray, List.map_cons, List.map_nil]); first | done | rfl) ?_
    refine (field_Add_m.calls _ _ _ _ rfl).mono ?_
    rintro e w' ⟨rfl, hbA⟩
    refine ⟨_, rfl, hK.out _ _ ⟨pw_cell_below hbA hHeld.1, pw_cell_below hbA hHeld.2.1, pw_cell_below hbA hHeld.2.2.1, pw_cell_below hbA hHeld.2.2.2.1, pw_cell_below hbA hHeld.2.2.2.2⟩ (fun hHeld => ?_)⟩
    clear hK K
    refine pure_ (i := 17) (N := some 45) (v := ?_) (a' := ?_) #[true, true, true, true, true, true, true, true, true, true, true, true, true, true, true, true, true, true, false] rfl rfl (by kernel_rfl) (fun _ _ _ h => h) (Or.inl ⟨by rfl, ?_⟩) ?_ ?_
    rotate_left
    · intro w'
      go_simp
      with_reducible rfl
    rotate_left
    · simp only [Act.put, List.setIfInBounds_toArray, List.set_cons_zero, List.set_cons_succ, i64_w, i32_w]
      rfl
    have hW5 := below_then (below_then hW2d hW2d.size (pw_below_drewN (Below.refl _ _) nd)) (by have := hW2d.size; simpa using this) hbA
    have hfz : w'.frozen? ⟨bi, k, none⟩ = false := (hW5.frozen (p := ⟨bi, k, none⟩) hbk).trans q2
    refine last_ (i := 18) (N := none) #[true, true, true, true, true, true, true, true, true, true, true, true, true, true, true, true, true, true, true] rfl rfl (by kernel_rfl) (by decide) (fun K hK => ?_)
    refine skip_ (w1 := ?_) (by rfl) rfl ?_ ?_
    rotate_left
    · go_simp
      rfl
    refine hK.out _ _ ?_
    clear hK K
    refine done_ (by kernel_rfl) ?_
    refine ⟨?_, ?_⟩
    · exact ((keeps_below hW5).trans (KeepsOthers.setCell _ _ _)).from _
    · have hv : (ak + wrap64 (-(nv * xk % 1073741789))) % 1073741789 = L.getD k 0 := (neg_wrap ak (nv * xk)).trans HLk.out.symm
      rw [hv]
      obtain ⟨d4, d5, d8, d9, d10⟩ := Hd.out
      have hs := HZ.out
      have hT5 := (HT2.out.below hW5).put (i := i) (j := k) (by simpa using hi) (by rw [Hmr.out, Hml.out]; exact hk) (L.getD k 0)
      rw [Hmr.out, mixRow_set Hlen.out (by rw [Hni.out]; exact hk), List.set_set, ← Hbi.out] at hT5
      clear hHeld
      have r1 := (d4.below hW5).far (c := bi) (by have := hg2; omega) k (.int .i64 (L.getD k 0))
      have r2 := (d5.below hW5).far (c := bi) (by have := hg2; omega) k (.int .i64 (L.getD k 0))
      have r3 := (d8.below hW5).far (c := bi) (by have := hg2; omega) k (.int .i64 (L.getD k 0))
      have r4 := (d9.below hW5).far (c := bi) (by have := hg2; omega) k (.int .i64 (L.getD k 0))
      have r5 := (d10.below hW5).far (c := bi) (by have := hg2; omega) k (.int .i64 (L.getD k 0))
      have eti : t[i] = t.getD i [] := by rw [List.getD_eq_getElem?_getD, List.getElem?_eq_getElem hi]; rfl
      refine ⟨?_, r1, r2, r3, r4, r5, (HB2.out.then_below hW5).then_set (.inl Hbi.out) _⟩
      rw [eti]
      exact hT5
  · rintro D k W hD rfl ⟨hT2, d4, d5, d8, d9, d10, hB2⟩ hK
    gi_wp2
    refine ⟨by simp, .inl ⟨_, _, rfl, run_takeDeferred hK, ?_⟩⟩
    refine ⟨.tuple #[], by simp [results, Try.results186, go_sem], rfl, ?_, ?_⟩
    · have hTk := hT2.kept (grownBy_putObj' W D (.deferred none)) (fun r e => by cases e; exact ⟨_, hK, rfl⟩)
      have e : mixRow (t.getD i []) L k = L := by rw [← Hni.out]; exact mixRow_all Hlen.out
      rw [e] at hTk
      exact hTk
    · exact hB2.then_grown (grownBy_putObj' W D (.deferred none)) (fun k e => by cases e; right; have := HZ.out; omega)
theorem clear_c (w : World) (base g cap : Nat) (bs : List Nat) (t : List (List Int)) (i bY c n : Nat) (hT : Tab w base g bs t) (hR : Sig.Rect t n) (hi : i < t.length) (hy : bY < t.length) (hne : i ≠ bY) (hc : c < n) (hn2 : n ≤ 9223372036854775807)
    (hz : ∀ d, d < c → Sig.ent t bY d = 0) (hb : base ≤ w.heap.size) (hcap : t.length ≤ cap) :
    Calls Try.prog 186 #[.slice (some ⟨g, 0, none⟩) t.length cap, .int .i64 (i : Int), .int .i64 (bY : Int), .int .i64 (c : Int)] w fun e w' => e = .returned (.tuple #[]) ∧
      Tab w' base g bs (t.set i (Sig.less (t.getD i []) (t.getD bY []) (Sig.ent t i c))) ∧ Chg (fun k => k = bs.getD i 0) w w' := by
  by_cases h0 : Sig.ent t i c = 0
  · refine (clear_zero w base g cap bs t i bY c n hT hi (hR _ (Sig.getD_mem hi)).1 hc h0 hb hcap).mono ?_
    rintro e w' ⟨he, hB⟩
    refine ⟨he, ?_, Chg.of_below hB⟩
    rw [h0, less_zero (hR _ (Sig.getD_mem hi)).2 ((hR _ (Sig.getD_mem hi)).1.trans (hR _ (Sig.getD_mem hy)).1.symm), set_self_row]
    exact hT.below hB
  · exact clear_some w base g cap bs t i bY c n hT hR hi hy hne hc hn2 hz hb h0
end Go.Proofs.Ytdbamhckgaoibaa.P
namespace Go.Proofs.Ytdbamhckgaoibaa.P
open Go.RowKit Go.Proofs.YtdbamhckgaoibaaW.PrintWords Go.Proofs.YtdbamhckgaoibaaW.PrintLast Go.Proofs.YtdbamhckgaoibaaW.PrintMore
set_option linter.unusedVariables false
set_option linter.unusedSimpArgs false
def markOf (D : Nat) : Deferred := { target := .collected D, args := #[] }
def Marks (base : Nat) (ds : List Deferred) (W : World) : Prop := ∃ Ds : List Nat, ds = Ds.map markOf ∧ Ds.Nodup ∧ ∀ D ∈ Ds, base ≤ D ∧ W.heap[D]? = some (.deferred (some []))
theorem Marks.nil (base : Nat) (W : World) : Marks base [] W := ⟨[], rfl, List.nodup_nil, fun _ h => by cases h⟩
theorem Marks.keep {base : Nat} {ds : List Deferred} {W W' : World} (h : Marks base ds W) (hk : ∀ D, base ≤ D → W.heap[D]? = some (.deferred (some [])) → W'.heap[D]? = some (.deferred (some []))) : Marks base ds W' := by
  obtain ⟨Ds, h1, h2, h3⟩ := h
  exact ⟨Ds, h1, h2, fun D hD => ⟨(h3 D hD).1, hk D (h3 D hD).1 (h3 D hD).2⟩⟩
theorem Marks.below {base : Nat} {ds : List Deferred} {W W' : World} (h : Marks base ds W) (hb : Below W.heap.size W W') : Marks base ds W' :=
  h.keep fun D _ hD => (hb.block D (Array.getElem?_eq_some_iff.1 hD).1).trans hD
theorem Marks.chg {base : Nat} {ds : List Deferred} {S : Nat → Prop} {W W' : World} (h : Marks base ds W) (hc : Chg S W W') (hs : ∀ k, base ≤ k → ¬ S k) : Marks base ds W' :=
  h.keep fun D hb hD => (hc.block D (Array.getElem?_eq_some_iff.1 hD).1 (hs D hb)).trans hD
theorem Marks.cons {base : Nat} {ds : List Deferred} {W W' : World} {D : Nat} (h : Marks base ds W) (hb : base ≤ D) (hD : W'.heap[D]? = some (.deferred (some []))) (hn : W.heap.size ≤ D) (hk : ∀ D, base ≤ D → W.heap[D]? = some (.deferred (some [])) → W'.heap[D]? = some (.deferred (some []))) :
    Marks base (markOf D :: ds) W' := by
  obtain ⟨Ds, h1, h2, h3⟩ := h
  refine ⟨D :: Ds, by rw [h1]; rfl, List.nodup_cons.2 ⟨fun hm => ?_, h2⟩, fun E hE => ?_⟩
  · have := (Array.getElem?_eq_some_iff.1 (h3 D hm).2).1; omega
  · rcases List.mem_cons.1 hE with rfl | hE
    · exact ⟨hb, hD⟩
    · exact ⟨(h3 E hE).1, hk E (h3 E hE).1 (h3 E hE).2⟩
theorem leaves_marks {n base : Nat} {P : Program} {fn : Func} {tmps : Array Value} {R : Ending → World → Prop} (I : World → Prop) (hI : ∀ W D, base ≤ D → W.heap[D]? = some (.deferred (some [])) → I W → I (W.putObj D (.deferred none)))
    (hR : ∀ W, I W → ∃ v, (results fn tmps).run P W = .ok v W ∧ R (.returned v) W) : ∀ (ds : List Deferred) (W : World), Marks base ds W → I W → LeavesInM Fence.wide n P fn tmps R ds .returning W := by
  intro ds W hM
  obtain ⟨Ds, rfl, h2, h3⟩ := hM
  revert W
  induction Ds with
  | nil =>
    intro W _ hi
    exact hR W hi
  | cons D Ds ih =>
    intro W h3 hi
    rw [List.nodup_cons] at h2
    obtain ⟨hb, hD⟩ := h3 D List.mem_cons_self
    refine ⟨by simp, .inl ⟨D, _, rfl, run_takeDeferred hD, ?_⟩⟩
    refine ih h2.2 _ (fun E hE => ⟨(h3 E (List.mem_cons_of_mem _ hE)).1, ?_⟩) (hI W D hb hD hi)
    exact (World.putObj_heap_other (fun e => h2.1 (by first | (rw [e]; exact hE) | (rw [← e]; exact hE)))).trans (h3 E (List.mem_cons_of_mem _ hE)).2
theorem own_chg {S : Nat → Prop} {w w1 : World} {base n : Nat} {e : TypeId} {size : Nat} {v : Value} {xs : List Value} (h : w.ownsRow base e size v n xs) (hc : Chg S w w1) (hs : ∀ k, base ≤ k → ¬ S k) : w1.ownsRow base e size v n xs :=
  own_move h fun k hk => hc.block k (own_lt h k hk) (hs k (own_base h k hk))
theorem own_nocell {w w1 : World} {base n : Nat} {e : TypeId} {size : Nat} {v : Value} {xs : List Value} (h : w.ownsRow base e size v n xs) {row : Option Nat} (hg : w.grownBy w1 row) (hr : ∀ r, row = some r → ∃ o : Obj, w.heap[r]? = some o ∧ o.isCells = false) : w1.ownsRow base e size v n xs :=
  own_move h fun k hk => hg.block k (own_lt h k hk) fun e1 => by
    obtain ⟨o, ho, hf⟩ := hr k e1.symm
    obtain ⟨cells, hcl⟩ := own_typed h k hk
    rw [hcl] at ho
    cases ho
    simp [Obj.isCells] at hf
theorem R_of_owns {w : World} {base : Nat} {ok : Nat → Prop} {v : Value} {xs : List Int} (h : w.ownsRow base 3 1 v xs.length (nums .i64 xs)) (hok : ∀ k, v.ownBlock = some k → ok k) : Kd.R (Kd.int .i64) 3 w base ok v xs := by
  refine ⟨hok, nums .i64 xs, h, by simp [nums, Kd.int, Kd.scalar], fun j p hj => ?_⟩
  have : (nums .i64 xs)[j]? = some (.int .i64 p) := by simp [nums, hj]
  show ((nums .i64 xs).drop (j * 1)).take 1 = [.int .i64 p]
  rw [Nat.mul_one]
  obtain ⟨hlt, he⟩ := List.getElem?_eq_some_iff.1 this
  rw [List.drop_eq_getElem_cons hlt, List.take_succ_cons, List.take_zero, he]
def elim (t : List (List Int)) (r c : Nat) : Nat → List (List Int)
  | 0 => t
  | j + 1 => if j = r then elim t r c j else (elim t r c j).set j (Sig.less ((elim t r c j).getD j []) ((elim t r c j).getD r []) (Sig.ent (elim t r c j) j c))
theorem elim_length (t : List (List Int)) (r c : Nat) : ∀ j, (elim t r c j).length = t.length
  | 0 => rfl
  | j + 1 => by
    rw [elim]; split
    · exact elim_length t r c j
    · rw [List.length_set]; exact elim_length t r c j
theorem elim_getD (t : List (List Int)) (r c : Nat) : ∀ j, j ≤ t.length → ∀ i, (elim t r c j).getD i [] = if i < j ∧ i ≠ r then Sig.less (t.getD i []) (t.getD r []) (Sig.ent t i c) else t.getD i []
  | 0, _, i => by rw [if_neg (by omega)]; rfl
  | j + 1, hj, i => by
    have ih := elim_getD t r c j (by omega)
    rw [elim]
    by_cases e : j = r
    · rw [if_pos e, ih i]
      by_cases h : i < j ∧ i ≠ r
      · rw [if_pos h, if_pos ⟨by omega, h.2⟩]
      · rw [if_neg h, if_neg (fun h' => h ⟨by omega, h'.2⟩)]
    · have e1 : (elim t r c j).getD j [] = t.getD j [] := by rw [ih j, if_neg (by omega)]
      have e2 : (elim t r c j).getD r [] = t.getD r [] := by rw [ih r, if_neg (fun h => h.2 rfl)]
      rw [if_neg e, getD_set_row (by rw [elim_length]; omega)]
      unfold Sig.ent
      rw [e1, e2, ih i]
      by_cases h : j = i
      · subst h
        rw [if_pos rfl, if_pos ⟨by omega, e⟩]
      · rw [if_neg h]
        by_cases h2 : i < j ∧ i ≠ r
        · rw [if_pos h2, if_pos ⟨by omega, h2.2⟩]; rfl
        · rw [if_neg h2, if_neg (fun h' => h2 ⟨by omega, h'.2⟩)]
theorem ext_rows {s t : List (List Int)} (hl : s.length = t.length) (h : ∀ i, i < t.length → s.getD i [] = t.getD i []) : s = t := by
  apply List.ext_getElem hl
  intro i h1 h2
  have := h i h2
  rw [List.getD_eq_getElem?_getD, List.getD_eq_getElem?_getD, List.getElem?_eq_getElem h1, List.getElem?_eq_getElem h2] at this
  exact this
def scaled (t : List (List Int)) (r k c : Nat) : List (List Int) := ((t.set r (t.getD k [])).set k (t.getD r [])).set r (Sig.times (t.getD k []) (Sig.finv (Sig.ent t k c)))
theorem scaled_getD {t : List (List Int)} {r k c : Nat} (hr : r < t.length) (hk : k < t.length) (i : Nat) : (scaled t r k c).getD i [] = if r = i then Sig.times (t.getD k []) (Sig.finv (Sig.ent t k c)) else Sig.swapped t r k i := by
  unfold scaled Sig.swapped
  rw [getD_set_row (by simpa using hr), getD_set_row (by simpa using hk), getD_set_row hr]
  by_cases e : r = i
  · rw [if_pos e, if_pos e]
  · rw [if_neg e, if_neg e, if_neg e]
theorem elim_pivot {t : List (List Int)} {r k c : Nat} (hr : r < t.length) (hk : k < t.length) : elim (scaled t r k c) r c t.length = Sig.pivot t r k c := by
  have hsl : (scaled t r k c).length = t.length := by simp [scaled]
  refine ext_rows (by rw [elim_length, Sig.pivot_length, hsl]) fun i hi => ?_
  rw [Sig.pivot_length] at hi
  rw [elim_getD _ _ _ _ (by omega), Sig.pivot_getD hk hi]
  unfold Sig.ent
  rw [scaled_getD hr hk, scaled_getD hr hk, if_pos rfl]
  by_cases e : i = r
  · subst e
    rw [if_neg (fun h => h.2 rfl), if_pos rfl, if_pos rfl]; rfl
  · rw [if_pos ⟨hi, e⟩, if_neg (fun h => e h.symm), if_neg e]; rfl
theorem fork_ {P : Program} {ops : Array Oper} {Q : Exit → Act → World → Prop} {md : Region.Mode} {S : World → Prop} {ds : List Nat} {i j : Nat} {N : Tmp} {oi oj : Oper} {v : Value} {fuel : Nat} {l : Array Bool} {a : Act} {w w1 : World} (li lj l' : Array Bool)
    (hi : ops[i]? = some oi) (hj : ops[j]? = some oj) (hN : oi.dst = some N) (hNj : oj.dst = none) (hd : j ∈ ds)
    (hc : (Region.ready md ops l == [i, j] && Region.ready md ops li == [j] && Region.ready md ops lj == [i] && l.setIfInBounds i true == li && l.setIfInBounds j true == lj && li.setIfInBounds j true == l' && lj.setIfInBounds i true == l') = true)
    (hy : YieldsIf P ops (fun w' => w' = w ∨ w' = w1) oi v a)
    (hw1 : Region.wanted oj (yielded ops a.tmps) = true) (hs1 : (execOp a.eval oj).run P w = .ok .skip w1) {a' : Act} (ha : a.put (some N) v = a')
    (hw2 : Region.wanted oj (yielded ops a'.tmps) = true) (hs2 : (execOp a'.eval oj).run P w = .ok .skip w1)
    (h : wpAnyLast P md ops Q S ds fuel l' a' w1) : wpAnyLast P md ops Q S ds (fuel + 2) l a w := by
  simp only [Bool.and_eq_true, beq_iff_eq] at hc
  obtain ⟨⟨⟨⟨⟨⟨h1, h2⟩, h3⟩, h4⟩, h5⟩, h6⟩, h7⟩ := hc
  refine wpAnyLast_ready h1 (by simp) ?_
  intro m hm
  rcases List.mem_cons.1 hm with rfl | hm
  · refine hy.wpOp hi (.inl rfl) ⟨fun _ h => h, ?_⟩
    rw [hN, ha, h4]
    refine wpAnyLast_ready h2 (by simp) ?_
    intro m' hm'
    obtain rfl : m' = j := by simpa using hm'
    refine wpOp_step hj (fun K' hK => ?_)
    rw [hNj]
    refine skip_ hw2 hNj hs2 (hK _ _ ⟨fun hn => absurd hd hn, ?_⟩)
    rw [h6]
    exact h
  · obtain rfl : m = j := by simpa using hm
    refine wpOp_step hj (fun K' hK => ?_)
    rw [hNj]
    refine skip_ hw1 hNj hs1 (hK _ _ ⟨fun hn => absurd hd hn, ?_⟩)
    rw [h5]
    refine wpAnyLast_ready h3 (by simp) ?_
    intro m' hm'
    obtain rfl : m' = i := by simpa using hm'
    refine hy.wpOp hi (.inr rfl) ⟨fun _ h => h, ?_⟩
    rw [hN, ha, h7]
    exact h
theorem own_len {w : World} {base n size : Nat} {e : TypeId} {v : Value} {xs : List Value} (h : w.ownsRow base e size v n xs) : ∃ A c, v = .slice A n c := by
  rcases h.2 with ⟨rfl, rfl⟩ | ⟨g, cap, cur, rfl, _⟩
  · exact ⟨none, 0, rfl⟩
  · exact ⟨_, _, rfl⟩
theorem own_far {w : World} {base n size : Nat} {e : TypeId} {v : Value} {xs : List Value} (h : w.ownsRow base e size v n xs) {b j : Nat} (hb : b < base) (u : Value) : (w.setCell ⟨b, j, none⟩ u).ownsRow base e size v n xs :=
  ownsRow_setCell_below h hb u
theorem times_start {a : List Int} {n : Int} {k : Nat} (ha : ∀ x ∈ a, Sig.InF x) (hz : ∀ d, d < k → a.getD d 0 = 0) : mixRow a (Sig.times a n) k = a := by
  refine mixRow_start (Sig.times_length a n).symm fun d hd hd2 => ?_
  rw [Sig.times_getD, hz d hd, Int.zero_mul]; rfl
structure RD (w : World) (base g : Nat) (S : Nat → Prop) (T : Nat) (tb : Value) (bs : List Nat) (t : List (List Int)) (ds : List Deferred) (W : World) : Prop where
  tab : Tab W base g bs t
  box : Bx W w.heap.size tb
  chg : Chg S w W
  marks : Marks w.heap.size ds W
  len : bs.length = T
  tlen : t.length = T
  low : ∀ i, i < T → S (bs.getD i 0)
  sg : S g
  slt : ∀ k, S k → k < w.heap.size
theorem RD.below {w : World} {base g : Nat} {S : Nat → Prop} {T : Nat} {tb : Value} {bs : List Nat} {t : List (List Int)} {ds : List Deferred} {W W' : World} (h : RD w base g S T tb bs t ds W) (hb : Below W.heap.size W W') : RD w base g S T tb bs t ds W' :=
  ⟨h.tab.below hb, h.box.below hb, h.chg.then_below hb, h.marks.below hb, h.len, h.tlen, h.low, h.sg, h.slt⟩
theorem RD.out {w : World} {base g : Nat} {S : Nat → Prop} {T : Nat} {tb : Value} {bs : List Nat} {t t' : List (List Int)} {ds : List Deferred} {W W' : World} {i : Nat} (h : RD w base g S T tb bs t ds W) (hi : i < T) (hT : Tab W' base g bs t') (hl : t'.length = T) (hc : Chg (fun k => k = bs.getD i 0) W W') : RD w base g S T tb bs t' ds W' :=
  ⟨hT, h.box.chg hc (fun e => by have := h.slt _ (h.low i hi); omega), h.chg.trans hc (fun k _ e => e ▸ h.low i hi), h.marks.chg hc (fun k hk e => by have := h.slt _ (h.low i hi); omega), h.len, hl, h.low, h.sg, h.slt⟩
theorem RD.kept {w : World} {base g : Nat} {S : Nat → Prop} {T : Nat} {tb : Value} {bs : List Nat} {t : List (List Int)} {ds : List Deferred} {W W' : World} (h : RD w base g S T tb bs t ds W) {row : Option Nat} (hg : W.grownBy W' row) (hr : ∀ k, row = some k → w.heap.size ≤ k ∧ (∃ o : Obj, W.heap[k]? = some o ∧ o.isCells = false)) (hM : Marks w.heap.size ds W') : RD w base g S T tb bs t ds W' :=
  ⟨h.tab.kept hg (fun r e => (hr r e).2), h.box.kept hg (fun r e => (hr r e).2), h.chg.then_grown hg (fun k e => .inr (hr k e).1), hM, h.len, h.tlen, h.low, h.sg, h.slt⟩
theorem RD.mark {w : World} {base g : Nat} {S : Nat → Prop} {T : Nat} {tb : Value} {bs : List Nat} {t : List (List Int)} {ds ds' : List Deferred} {W : World} (h : RD w base g S T tb bs t ds W) (hM : Marks w.heap.size ds' W) : RD w base g S T tb bs t ds' W :=
  ⟨h.tab, h.box, h.chg, hM, h.len, h.tlen, h.low, h.sg, h.slt⟩
theorem RD.swap {w : World} {base g : Nat} {S : Nat → Prop} {T : Nat} {tb : Value} {bs : List Nat} {t : List (List Int)} {ds : List Deferred} {W : World} (h : RD w base g S T tb bs t ds W) {r k n cr ck : Nat} (hr : r < T) (hk : k < T) (nr : (t.getD r []).length = n) (nk : (t.getD k []).length = n)
    (h1 : W.cell? ⟨g, r, none⟩ = some (.slice (some ⟨bs.getD r 0, 0, none⟩) n cr)) (h2 : W.cell? ⟨g, k, none⟩ = some (.slice (some ⟨bs.getD k 0, 0, none⟩) n ck)) (l1 : n ≤ cr) (l2 : n ≤ ck) :
    RD w base g S T tb ((bs.set r (bs.getD k 0)).set k (bs.getD r 0)) ((t.set r (t.getD k [])).set k (t.getD r [])) ds ((W.setCell ⟨g, r, none⟩ (.slice (some ⟨bs.getD k 0, 0, none⟩) n ck)).setCell ⟨g, k, none⟩ (.slice (some ⟨bs.getD r 0, 0, none⟩) n cr)) := by
  have hgl := h.slt g h.sg
  have hT := h.tab.swap (h.len.trans h.tlen.symm) (by rw [h.tlen]; exact hr) (by rw [h.tlen]; exact hk) (cr := cr) (ck := ck) (by rw [nr]; exact h1) (by rw [nk]; exact h2) (by rw [nr]; exact l1) (by rw [nk]; exact l2)
  rw [nr, nk] at hT
  refine ⟨hT, (h.box.far (c := g) (by omega) _ _).far (c := g) (by omega) _ _, (h.chg.then_set (.inl h.sg) _).then_set (.inl h.sg) _, h.marks.chg (S := fun k => k = g) (((Chg.refl (fun k => k = g) W).then_set (.inl rfl) _).then_set (.inl rfl) _) (fun k hk (e : k = g) => by omega), by simpa using h.len, by simpa using h.tlen, fun i hi => ?_, h.sg, h.slt⟩
  rw [getD_set_nat, getD_set_nat]
  split
  · exact h.low r hr
  · split
    · exact h.low k hk
    · exact h.low i hi
theorem own_below {w w1 : World} {base n : Nat} {e : TypeId} {size : Nat} {v : Value} {xs : List Value} (h : w.ownsRow base e size v n xs) (hb : Below w.heap.size w w1) : w1.ownsRow base e size v n xs :=
  own_move h fun k hk => hb.block k (own_lt h k hk)
theorem Tab.chg {S : Nat → Prop} {W W' : World} {base g : Nat} {bs : List Nat} {t : List (List Int)} (h : Tab W base g bs t) (hc : Chg S W W') (hg : ¬ S g) (hb : ∀ i, i < t.length → ¬ S (bs.getD i 0)) : Tab W' base g bs t := by
  have hm : ∀ b, ¬ S b → ∀ j v, W.cell? ⟨b, j, none⟩ = some v → W'.cell? ⟨b, j, none⟩ = some v ∧ W'.frozen? ⟨b, j, none⟩ = W.frozen? ⟨b, j, none⟩ := fun b hb j v hv =>
    ⟨(hc.cell (a := ⟨b, j, none⟩) (World.block_lt_of_cell? W _ hv) hb).1.trans hv, (hc.cell (a := ⟨b, j, none⟩) (World.block_lt_of_cell? W _ hv) hb).2⟩
  refine ⟨h.geg, h.ge, h.ne, h.inj, fun i hi => ?_, fun i hi => (h.rows i hi).move (hm _ (hb i hi))⟩
  obtain ⟨⟨c, h1, h2⟩, h3⟩ := h.main i hi
  obtain ⟨h4, h5⟩ := hm g hg i _ h2
  exact ⟨⟨c, h1, h4⟩, h5.trans h3⟩
theorem RD.appended {w : World} {base g : Nat} {S : Nat → Prop} {T : Nat} {tb : Value} {bs : List Nat} {t : List (List Int)} {ds : List Deferred} {W W' : World} (h : RD w base g S T tb bs t ds W) {n size : Nat} {e : TypeId} {v : Value} {xs : List Value} (hO : W.ownsRow (w.heap.size + 1) e size v n xs) (hg : W.grownBy W' v.ownBlock) : RD w base g S T tb bs t ds W' := by
  have hc : Chg (fun k => v.ownBlock = some k) W W' := (Chg.refl _ W).then_grown hg (fun k e => .inl e)
  have hlt : ∀ k, v.ownBlock = some k → w.heap.size + 1 ≤ k := fun k hk => own_base hO k hk
  have hgl := h.slt g h.sg
  refine ⟨h.tab.chg hc (fun e => by have := hlt _ e; omega) (fun i hi e => by have h1 := hlt _ e; have h2 := h.slt _ (h.low i (by rw [← h.tlen]; exact hi)); omega), h.box.chg hc (fun e => by have := hlt _ e; omega), h.chg.then_grown hg (fun k e => .inr (by have := hlt _ e; omega)), h.marks.keep fun D hD hd => ?_, h.len, h.tlen, h.low, h.sg, h.slt⟩
  refine (hc.block D (Array.getElem?_eq_some_iff.1 hd).1 fun e1 => ?_).trans hd
  obtain ⟨cells, hcl⟩ := own_typed hO D e1
  rw [hcl] at hd
  cases hd
theorem own_mono {w : World} {base base' n : Nat} {e : TypeId} {size : Nat} {v : Value} {xs : List Value} (h : w.ownsRow base e size v n xs) (hb : base' ≤ base) : w.ownsRow base' e size v n xs := by
  refine ⟨h.1, ?_⟩
  rcases h.2 with h1 | ⟨g, cap, cur, h1, h2, h3⟩
  · exact .inl h1
  · exact .inr ⟨g, cap, cur, h1, Nat.le_trans hb h2, h3⟩
def CJ (W0 : World) (base g : Nat) (bs : List Nat) (t : List (List Int)) (i : Nat) (a b : List Int) (k : Nat) (W : World) : Prop := Tab W base g bs (t.set i (mixRow a b k)) ∧ Chg (fun k => k = bs.getD i 0) W0 W
theorem CJ.own (W0 : World) (base g : Nat) (bs : List Nat) (t : List (List Int)) (i : Nat) (a b : List Int) {B : Nat} (hB : W0.heap.size ≤ B) : OwnFrom B (CJ W0 base g bs t i a b) := by
  rintro k W W' row ⟨h0, h1⟩ hg hr
  exact ⟨h0.kept hg (fun r e => (hr r e).2), h1.then_grown hg (fun k e => .inr (Nat.le_trans hB (hr k e).1))⟩
theorem rect_set {t : List (List Int)} {n i : Nat} {row : List Int} (h : Sig.Rect t n) (hl : row.length = n) (hr : ∀ x ∈ row, Sig.InF x) : Sig.Rect (t.set i row) n := fun r hm => by
  rcases List.mem_or_eq_of_mem_set hm with h1 | rfl
  · exact h r h1
  · exact ⟨hl, hr⟩
theorem rect_elim {t : List (List Int)} {n r c : Nat} (h : Sig.Rect t n) (hr : r < t.length) : ∀ j, j ≤ t.length → Sig.Rect (elim t r c j) n
  | 0, _ => h
  | j + 1, hj => by
    have ih := rect_elim (c := c) h hr j (by omega)
    rw [elim]
    split
    · exact ih
    · have h1 := (ih _ (Sig.getD_mem (show j < (elim t r c j).length by rw [elim_length]; omega))).1
      have h2 := (ih _ (Sig.getD_mem (show r < (elim t r c j).length by rw [elim_length]; omega))).1
      exact rect_set ih ((Sig.less_length (h1.trans h2.symm)).trans h1) (Sig.less_inF _ _ _)
theorem swap_at {t : List (List Int)} {r k : Nat} (hr : r < t.length) (hk : k < t.length) : ((t.set r (t.getD k [])).set k (t.getD r [])).getD r [] = t.getD k [] := by
  rw [getD_set_row (by simpa using hk), getD_set_row hr]
  by_cases e : k = r
  · subst e; rw [if_pos rfl]
  · rw [if_neg e, if_pos rfl]
theorem swap_rect {t : List (List Int)} {n r k : Nat} (h : Sig.Rect t n) (hr : r < t.length) (hk : k < t.length) : Sig.Rect ((t.set r (t.getD k [])).set k (t.getD r [])) n :=
  rect_set (rect_set h (h _ (Sig.getD_mem hk)).1 (h _ (Sig.getD_mem hk)).2) (h _ (Sig.getD_mem hr)).1 (h _ (Sig.getD_mem hr)).2
theorem scaled_rect {t : List (List Int)} {n r k c : Nat} (h : Sig.Rect t n) (hr : r < t.length) (hk : k < t.length) : Sig.Rect (scaled t r k c) n :=
  rect_set (swap_rect h hr hk) ((Sig.times_length _ _).trans (h _ (Sig.getD_mem hk)).1) (Sig.times_inF _ _)
theorem scaled_zero {t : List (List Int)} {r k c j d : Nat} (hr : r < t.length) (hk : k < t.length) (hj : j ≤ t.length) (hz : Sig.ent t k d = 0) : Sig.ent (elim (scaled t r k c) r c j) r d = 0 := by
  unfold Sig.ent
  rw [elim_getD _ _ _ _ (by simpa [scaled] using hj), if_neg (fun h => h.2 rfl), scaled_getD hr hk, if_pos rfl, Sig.times_getD]
  have : (t.getD k []).getD d 0 = 0 := hz
  rw [this, Int.zero_mul]; rfl
def onlyN (K : Act → World → Prop) : Exit → Act → World → Prop
  | .normal, a, w => K a w
  | .ret, _, _ => False
  | .exit _, _, _ => False
  | .goto _, _, _ => False
  | .panic _, _, _ => False
  | .outgrown, _, _ => False
theorem region_only {n : Nat} {P : Program} {c : Code} {K : Act → World → Prop} {Q : Exit → Act → World → Prop} {a : Act} {w : World}
    (h : ∀ K' : Act → World → Prop, (∀ a' w', K a' w' → K' a' w') → c.wp P (onlyN K') a w) : c.wpIn Fence.wide n P (Exit.then K Q) a w := by
  refine wpIn_mono (wpIn_wide.2 (h K (fun _ _ h => h))) ?_
  intro e a' w' hq
  cases e with
  | normal => exact hq
  | ret => exact hq.elim
  | exit id => exact hq.elim
  | goto t => exact hq.elim
  | panic ch => exact hq.elim
  | outgrown => exact hq.elim
end Go.Proofs.Ytdbamhckgaoibaa.P
