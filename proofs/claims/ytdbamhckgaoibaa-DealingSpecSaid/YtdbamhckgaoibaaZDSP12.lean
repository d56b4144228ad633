/- The row of DealingSpec: for every input it returns true, and its arguments read as before. -/
import Derived.Test.YtdbamhckgaoibaaZDSP11
import Derived.Below
import Derived.ChangeOld
import Derived.OpenShut
import Derived.ProofKit
import Derived.ShutString
import Derived.SizedLaws
import Derived.WalkKit
import Derived.Test.YtdbamhckgaoibaaRows
import Derived.Test.YtdbamhckgaoibaaJ0
namespace Go.Proofs.Ytdbamhckgaoibaa.dealingSpec
open Go.ChangeShapes Go.WideShapes Go.ChangeAt Go.RowKit Go.Proofs.Ytdbamhckgaoibaa.P
set_option linter.unusedVariables false
theorem own : ownKnob Try.prog.godebug = none := by kernel_rfl
theorem laidOut : laidOutB Try.prog = true := J.laid
set_option maxRecDepth 100000 in
theorem lifted (os : Os) (started : os.Started) (H : Type) (enc : TypeId × Value → H) :
    ReturnsInHanded {} Try.checked os 3 .any (Rows.dealingSpecSpec.pre6 enc Try.prog Try.f3 Rows.dealingSpecRow.domain false) (Rows.dealingSpecSpec.post enc Try.prog Try.f3 false true false false) := by
  refine returnsInHanded_of_change_sized (C := Try.checked) own started (by kernel_rfl) Try.func3
    (ChangeSpec.witness6 (enc := enc) (C := Try.checked) false ⟨#[], #[.agg #[.slice none 0 0, .slice none 0 0], .int .i64 0, .slice none 0 0, .slice none 0 0], []⟩ 8 (by kernel_rfl) (by kernel_rfl) (by kernel_rfl) (by kernel_rfl)) ?_
  intro W base args ds gs before hval0 hW hcnd hsz0 _; have hval : ∀ (j : Nat) t v, Try.f3.params[j]? = some t → args[j]? = some v → Value.okWide Try.prog W .any base t v := hval0; have hW' := hW; obtain ⟨p, q, hA0, hV, rfl, hfz, hnd⟩ := hW; have hA : DataW.TrodAll enc Try.prog W 0 (fun _ => true) true Try.f3.params.toList args.toList ds p := hA0; rw [Try.params3] at hA hval; obtain ⟨v0, vs0, d0, ds0, p0, q0, hargs, rfl, rfl, h0, r0⟩ := trodAll_cons hA; obtain ⟨v1, vs1, d1, ds1, p1, q1, rfl, rfl, rfl, h1, r1⟩ := trodAll_cons r0; obtain ⟨v2, vs2, d2, ds2, p2, q2, rfl, rfl, rfl, h2, r2⟩ := trodAll_cons r1; obtain ⟨v3, vs3, d3, ds3, p3, q3, rfl, rfl, rfl, h3, r3⟩ := trodAll_cons r2; obtain ⟨rfl, rfl, rfl⟩ := trodAll_nil r3
  obtain rfl : args = #[v0, v1, v2, v3] := by cases args; simp_all
  obtain ⟨rfl, rfl⟩ := trodVars_none hV; have k0 := h0
  have lt0 : ∀ x ∈ p0, x.block < W.heap.size := by obtain ⟨m, hm⟩ := k0; exact DataW.trod_lt m _ _ _ hm
  obtain ⟨A0, c0, l0, B0, e0, m0, rfl, hc0, hr0, w0, he0, hm0, u0⟩ := opened_prog (hval 0 25 v0 rfl rfl) h0; obtain ⟨a1, rfl, rfl, rfl, w1⟩ := open_int Try.underlying3 (hval 1 3 v1 rfl rfl) h1; have k2 := h2
  have lt2 : ∀ x ∈ p2, x.block < W.heap.size := by obtain ⟨m, hm⟩ := k2; exact DataW.trod_lt m _ _ _ hm
  obtain ⟨A2, c2, l2, rfl, hc2, hr2, w2⟩ := opened 0 Try.underlying23 (by kernel_rfl) opI (hval 2 23 v2 rfl rfl) h2; have k3 := h3
  have lt3 : ∀ x ∈ p3, x.block < W.heap.size := by obtain ⟨m, hm⟩ := k3; exact DataW.trod_lt m _ _ _ hm
  obtain ⟨A3, c3, l3, rfl, hc3, hr3, w3⟩ := opened 0 Try.underlying26 (by kernel_rfl) opShare (hval 3 26 v3 rfl rfl) h3; clear hA0 hval0 hsz0 hval; refine (signatorylaw34_DealingSpec.calls 110000 _ _ l0 _ _ m0 a1 _ _ l2 _ _ l3 true W hr0 hc0 hm0 he0 hr2 hc2 hr3 hc3 (dealingSpec_true l0 m0 a1 l2 l3)).mono ?_; rintro e W' ⟨rfl, bel⟩; exact ⟨_, rfl, _, _, _, [], _, [], hW', trodAll_mk1 (shut_bool Try.underlying4 _), (trodAll_cons_mk (Below.trod laidOut (by kernel_rfl) (of_decide_eq_true (by kernel_rfl)) k0 bel lt0) (trodAll_cons_mk (shut_int Try.underlying3 w1) (trodAll_cons_mk (Below.trod laidOut (by kernel_rfl) (of_decide_eq_true (by kernel_rfl)) k2 bel lt2) (trodAll_cons_mk (Below.trod laidOut (by kernel_rfl) (of_decide_eq_true (by kernel_rfl)) k3 bel lt3) trodAll_mk0)))), rfl, bel.frame _, fun h => by cases h⟩
theorem cPlace : (Rows.dealingSpecRow.inPlace == Try.prog.inPlace 3) = true := by kernel_rfl
theorem cUnf : (Rows.dealingSpecRow.unfollowed == Try.prog.unfollowed 3) = true := by kernel_rfl
theorem cRec : (Rows.dealingSpecRow.recurses == Try.prog.recurses 3) = true := by kernel_rfl
theorem cVars : (Rows.dealingSpecRow.named == Try.prog.varsNamed 3) = true := by kernel_rfl
theorem closed : joinedFacts Try.prog 3 Try.f3 Rows.dealingSpecSpec Rows.dealingSpecRow = true :=
  J.joined (by kernel_rfl) J.laid J.maps (by kernel_rfl) (by kernel_rfl) (by kernel_rfl) J.stops (by kernel_rfl) J.stopKnobs cPlace cUnf cRec cVars (by kernel_rfl) J.keys (by kernel_rfl) J.heard J.may J.lifts J.make (by kernel_rfl)
theorem over : Rows.dealingSpecRow.holds Try.pinned (OpenSpec.ofChange Rows.dealingSpecSpec) :=
  OpenClaim.holds_of_wide 3 Try.f3 rfl rfl rfl rfl rfl rfl rfl ⟨rfl, rfl, rfl, rfl, rfl⟩ rfl rfl rfl rfl rfl (by kernel_rfl) Try.func3 closed
    (of_decide_eq_true (by kernel_rfl)) (by unfold Func.isWrapper; first | (rw [if_pos (by decide +kernel)]; kernel_rfl) | (rw [if_neg (by decide +kernel)]; exact ⟨rfl, rfl⟩))
    (fun os started H enc _ => lifted os started H enc)
theorem proved : Rows.DealingSpecSaid := over
#print axioms proved
end Go.Proofs.Ytdbamhckgaoibaa.dealingSpec
