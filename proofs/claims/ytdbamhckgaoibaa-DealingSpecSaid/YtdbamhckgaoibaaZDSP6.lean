/- A part of the proof of DealingSpec: linear.reduce brings the table into its form.; slices.ContainsFunc with the program's own predicates tells whether one of the elements meets the predicate.; What linear's two great functions call: need, check, examine, caught; a table made by turned.; linear.Combine.; The reference's Combine (layer 13), in plain words.; The calls of program.Check, dealing.numbers, group.Mul come to what their functions in Lean say.; program.Check in plain words.; The group in plain words: elements, powers, the generator. -/
import Derived.Test.YtdbamhckgaoibaaZDSP5
import Derived.Defers
import Derived.RangeFuncWrites
import Derived.Recover
import Derived.Shelf.Abstract
namespace Go.Proofs.Ytdbamhckgaoibaa.P
open Go.RowKit Go.Proofs.YtdbamhckgaoibaaW.PrintWords Go.Proofs.YtdbamhckgaoibaaW.PrintLast Go.Proofs.YtdbamhckgaoibaaW.PrintMore
attribute [local go_sem] Oper.semAt_some
set_option linter.unusedVariables false
set_option linter.unusedSimpArgs false
def RedPost (w : World) (base g : Nat) (bs : List Nat) (t : List (List Int)) (many : Nat) (e : Ending) (w' : World) : Prop := ∃ v bs', e = .returned v ∧ bs'.length = bs.length ∧ Tab w' base g bs' (Sig.reduce t many).1 ∧
      w'.ownsRow w.heap.size 3 1 v (Sig.reduce t many).2.length (nums .i64 ((Sig.reduce t many).2.map fun (p : Nat) => (p : Int))) ∧ Chg (fun k => k = g ∨ ∃ j, j < t.length ∧ k = bs.getD j 0) w w'
theorem step_none {t : List (List Int)} {ps : List Nat} {c : Nat} (h : Sig.find t c ps.length = t.length) : Sig.step (t, ps) c = (t, ps) := by
  unfold Sig.step; rw [if_neg (by simp only; omega)]
theorem step_some {t : List (List Int)} {ps : List Nat} {c k : Nat} (h : Sig.find t c ps.length = k) (hk : k < t.length) : Sig.step (t, ps) c = (Sig.pivot t ps.length k c, ps ++ [c]) := by
  unfold Sig.step; rw [if_pos (by simp only; omega)]; simp only [h]
set_option maxRecDepth 100000 in
set_option maxHeartbeats 8000000 in
theorem reduce_c (w : World) (base g cap : Nat) (bs : List Nat) (t : List (List Int)) (many n : Nat) (hT : Tab w base g bs t) (hlb : bs.length = t.length) (hR : Sig.Rect t n) (hm : many ≤ n) (hn : n ≤ 1000000000000) (hl : t.length ≤ 1000000000000) (hcap : t.length ≤ cap) (hb : base ≤ w.heap.size) (hgl : g < w.heap.size) (hbl : ∀ j, j < t.length → bs.getD j 0 < w.heap.size) :
    Calls Try.prog 120 #[.slice (some ⟨g, 0, none⟩) t.length cap, .int .i64 (many : Int)] w (RedPost w base g bs t many) := by
  refine (callsIn_wide (n := 9)).1 ?_; refine callsIn_of_wp_marks Try.func120 rfl trivial ?_ rfl; simp only [Try.ntmps120, List.size_toArray, List.length_cons, List.length_nil, Nat.reduceAdd, Nat.reduceSub, Array.replicate_succ, Array.replicate_zero, List.push_toArray, List.append_toArray, List.nil_append, List.cons_append]
  obtain ⟨S, hS⟩ : ∃ S : Nat → Prop, S = (fun k => k = g ∨ ∃ j, j < t.length ∧ k = bs.getD j 0) := ⟨_, rfl⟩
  have h0 : RD w base g S t.length (.slice (some ⟨g, 0, none⟩) t.length cap) bs t [] (w.alloc (.cells #[.slice (some ⟨g, 0, none⟩) t.length cap] 134)) :=
    ⟨hT.below ((Below.refl _ w).alloc (Nat.le_refl _) _), Bx.new w _ _, (Chg.refl S w).then_alloc _, Marks.nil _ _, hlb, rfl, fun i hi => by rw [hS]; exact .inr ⟨i, hi, rfl⟩, by rw [hS]; exact .inl rfl, fun k hk => by
      rw [hS] at hk
      rcases hk with rfl | ⟨j, hj, rfl⟩
      · exact hgl
      · exact hbl j hj⟩
  have H0 := Aside0.mk h0; have HR := Aside0.mk hR; have HS := Aside0.mk hS; clear hS h0 hT hR hbl
  gi_wp2
  refine wpIn_loop_ghost_k (fun gk a' w' => ∃ (ds : List Deferred) (u4 u5 u6 u7 u8 u9 u10 u11 u12 u14 u15 u16 u17 u18 u19 u20 u21 u22 u23 u24 u25 u26 u27 u28 u29 u30 u31 u32 u33 u34 u35 u36 u37 u38 u39 u40 u41 u42 u43 u44 u45 u46 u47 u48 u49 u50 u51 u52 u53 u54 u55 u56 u57 u58 u59 u60 u61 u62 u63 u64 u65 u66 u67 u68 u69 u70 u71 u72 u73 u74 u75 u76 u77 u78 u79 u80 u81 u82 u83 u84 u85 u86 u87 u88 u89 u90 u91 u92 u93 u94 u95 u96 u97 u98 u99 u100 : Value), (∃ c bs', c ≤ many ∧ gk = many - c ∧ u14 = .int .i64 (c : Int) ∧ RD w base g S t.length (.slice (some ⟨g, 0, none⟩) t.length cap) bs' (Sig.reduce t c).1 ds w' ∧ w'.ownsRow (w.heap.size + 1) 3 1 u4 (Sig.reduce t c).2.length (nums .i64 ((Sig.reduce t c).2.map fun (p : Nat) => (p : Int)))) ∧ a' = { tmps := #[.slice (some ⟨g, 0, none⟩) t.length cap, .int .i64 (many : Int), .pointer (some ⟨w.heap.size, 0, none⟩), undef, u4, u5, u6, u7, u8, u9, u10, u11, u12, .int .i64 (many : Int), u14, u15, u16, u17, u18, u19, u20, u21, u22, u23, u24, u25, u26, u27, u28, u29, u30, u31, u32, u33, u34, u35, u36, u37, u38, u39, u40, u41, u42, u43, u44, u45, u46, u47, u48, u49, u50, u51, u52, u53, u54, u55, u56, u57, u58, u59, u60, u61, u62, u63, u64, u65, u66, u67, u68, u69, u70, u71, u72, u73, u74, u75, u76, u77, u78, u79, u80, u81, u82, u83, u84, u85, u86, u87, u88, u89, u90, u91, u92, u93, u94, u95, u96, u97, u98, u99, u100, undef], defers := ds }) many ?_ ?_
  · refine ⟨_, _, _, _, _, _, _, _, _, _, _, _, _, _, _, _, _, _, _, _, _, _, _, _, _, _, _, _, _, _, _, _, _, _, _, _, _, _, _, _, _, _, _, _, _, _, _, _, _, _, _, _, _, _, _, _, _, _, _, _, _, _, _, _, _, _, _, _, _, _, _, _, _, _, _, _, _, _, _, _, _, _, _, _, _, _, _, _, _, _, _, _, _, _, _, _, _, ⟨0, bs, Nat.zero_le _, rfl, rfl, H0.out, ?_⟩, rfl⟩
    exact World.ownsRow_nil _ _ _ _
  · intro gk _ wo hinv
    obtain ⟨ds, hinv⟩ := hinv; obtain ⟨u4, hinv⟩ := hinv; obtain ⟨u5, hinv⟩ := hinv; obtain ⟨u6, hinv⟩ := hinv; obtain ⟨u7, hinv⟩ := hinv; obtain ⟨u8, hinv⟩ := hinv; obtain ⟨u9, hinv⟩ := hinv; obtain ⟨u10, hinv⟩ := hinv; obtain ⟨u11, hinv⟩ := hinv; obtain ⟨u12, hinv⟩ := hinv; obtain ⟨u14, hinv⟩ := hinv; obtain ⟨u15, hinv⟩ := hinv; obtain ⟨u16, hinv⟩ := hinv; obtain ⟨u17, hinv⟩ := hinv; obtain ⟨u18, hinv⟩ := hinv; obtain ⟨u19, hinv⟩ := hinv; obtain ⟨u20, hinv⟩ := hinv; obtain ⟨u21, hinv⟩ := hinv; obtain ⟨u22, hinv⟩ := hinv; obtain ⟨u23, hinv⟩ := hinv; obtain ⟨u24, hinv⟩ := hinv; obtain ⟨u25, hinv⟩ := hinv; obtain ⟨u26, hinv⟩ := hinv; obtain ⟨u27, hinv⟩ := hinv; obtain ⟨u28, hinv⟩ := hinv; obtain ⟨u29, hinv⟩ := hinv; obtain ⟨u30, hinv⟩ := hinv; obtain ⟨u31, hinv⟩ := hinv; obtain ⟨u32, hinv⟩ := hinv; obtain ⟨u33, hinv⟩ := hinv; obtain ⟨u34, hinv⟩ := hinv; obtain ⟨u35, hinv⟩ := hinv; obtain ⟨u36, hinv⟩ := hinv; obtain ⟨u37, hinv⟩ := hinv; obtain ⟨u38, hinv⟩ := hinv; obtain ⟨u39, hinv⟩ := hinv; obtain ⟨u40, hinv⟩ := hinv; obtain ⟨u41, hinv⟩ := hinv; obtain ⟨u42, hinv⟩ := hinv; obtain ⟨u43, hinv⟩ := hinv; obtain ⟨u44, hinv⟩ := hinv; obtain ⟨u45, hinv⟩ := hinv; obtain ⟨u46, hinv⟩ := hinv; obtain ⟨u47, hinv⟩ := hinv; obtain ⟨u48, hinv⟩ := hinv; obtain ⟨u49, hinv⟩ := hinv; obtain ⟨u50, hinv⟩ := hinv; obtain ⟨u51, hinv⟩ := hinv; obtain ⟨u52, hinv⟩ := hinv; obtain ⟨u53, hinv⟩ := hinv; obtain ⟨u54, hinv⟩ := hinv; obtain ⟨u55, hinv⟩ := hinv; obtain ⟨u56, hinv⟩ := hinv; obtain ⟨u57, hinv⟩ := hinv; obtain ⟨u58, hinv⟩ := hinv; obtain ⟨u59, hinv⟩ := hinv; obtain ⟨u60, hinv⟩ := hinv; obtain ⟨u61, hinv⟩ := hinv; obtain ⟨u62, hinv⟩ := hinv; obtain ⟨u63, hinv⟩ := hinv; obtain ⟨u64, hinv⟩ := hinv; obtain ⟨u65, hinv⟩ := hinv; obtain ⟨u66, hinv⟩ := hinv; obtain ⟨u67, hinv⟩ := hinv; obtain ⟨u68, hinv⟩ := hinv; obtain ⟨u69, hinv⟩ := hinv; obtain ⟨u70, hinv⟩ := hinv; obtain ⟨u71, hinv⟩ := hinv; obtain ⟨u72, hinv⟩ := hinv; obtain ⟨u73, hinv⟩ := hinv; obtain ⟨u74, hinv⟩ := hinv; obtain ⟨u75, hinv⟩ := hinv; obtain ⟨u76, hinv⟩ := hinv; obtain ⟨u77, hinv⟩ := hinv; obtain ⟨u78, hinv⟩ := hinv; obtain ⟨u79, hinv⟩ := hinv; obtain ⟨u80, hinv⟩ := hinv; obtain ⟨u81, hinv⟩ := hinv; obtain ⟨u82, hinv⟩ := hinv; obtain ⟨u83, hinv⟩ := hinv; obtain ⟨u84, hinv⟩ := hinv; obtain ⟨u85, hinv⟩ := hinv; obtain ⟨u86, hinv⟩ := hinv; obtain ⟨u87, hinv⟩ := hinv; obtain ⟨u88, hinv⟩ := hinv; obtain ⟨u89, hinv⟩ := hinv; obtain ⟨u90, hinv⟩ := hinv; obtain ⟨u91, hinv⟩ := hinv; obtain ⟨u92, hinv⟩ := hinv; obtain ⟨u93, hinv⟩ := hinv; obtain ⟨u94, hinv⟩ := hinv; obtain ⟨u95, hinv⟩ := hinv; obtain ⟨u96, hinv⟩ := hinv; obtain ⟨u97, hinv⟩ := hinv; obtain ⟨u98, hinv⟩ := hinv; obtain ⟨u99, hinv⟩ := hinv; obtain ⟨u100, hinv⟩ := hinv; obtain ⟨hrel, ha⟩ := hinv; subst ha; intro _ _ _ _; obtain ⟨c, bs', hc, rfl, rfl, hD, hO⟩ := hrel; clear H0; have hst := Sig.reduce_succ t c; obtain ⟨hI, htl⟩ := Sig.inv_reduce HR.out c (by omega); generalize hrc : Sig.reduce t c = tc at hst hI htl hD hO; obtain ⟨t', ps⟩ := tc; simp only at hst hI htl hD hO; have HRC := Aside0.mk hrc; clear hrc; have HD := Aside0.mk hD; have HO := Aside0.mk hO; have HI := Aside0.mk hI; have HST := Aside0.mk hst; have HTL := Aside0.mk htl; obtain ⟨pA, pc, rfl⟩ := own_len hO; have hbox := hD.box; have hB2 := hbox.lt; have e2 := hbox.1; have hps := hI.few; rw [htl] at hps; clear hD hO hI hst htl hbox
    by_cases hcm : c < many
    · have f1 : decide ((c : Int) < (many : Int)) = true := decide_eq_true (by omega)
      gi_wp2
      obtain ⟨W0, hW0⟩ : ∃ W0, wo.alloc (.cells #[.int .i64 (ps.length : Int)] 3) = W0 := ⟨_, rfl⟩
      rw [hW0]
      have hb0 : Below wo.heap.size wo W0 := by rw [← hW0]; exact (Below.refl _ _).alloc (Nat.le_refl _) _
      have hr0 : Bx W0 wo.heap.size (.int .i64 (ps.length : Int)) := by rw [← hW0]; exact Bx.new _ _ _
      have HD0 := Aside0.mk (HD.out.below hb0); have HO0 := Aside0.mk (own_below HO.out hb0); have e2' := HD0.out.box.1; have e6 := hr0.1; have HR0 := Aside0.mk hr0; clear HD HO e2 hW0 hb0 hr0
      gi_loopg [7] (t.length - ps.length) (fun gk v7 w7 => ∃ k : Nat, ps.length ≤ k ∧ k ≤ t.length ∧ gk = t.length - k ∧ v7 = .int .i64 (k : Int) ∧ Sig.find t' c k = Sig.find t' c ps.length ∧ w7 = W0)
      case atStart => exact ⟨ps.length, Nat.le_refl _, hps, rfl, rfl, rfl, rfl⟩
      case round =>
        obtain ⟨k, hk1, hk2, rfl, rfl, hf, hwe⟩ := hrel; subst hwe; have HF := Aside0.mk hf; clear hf
        by_cases hk : k < t.length
        · have hk' : k < t'.length := by rw [HTL.out]; exact hk
          have hrl := (HI.out.rect _ (Sig.getD_mem hk')).1; obtain ⟨⟨ck, m1, m2⟩, m3⟩ := HD0.out.tab.main k hk'; obtain ⟨q1, q2⟩ := HD0.out.tab.rows k hk' c (by rw [hrl]; omega); have q0 : (t'.getD k []).getD c 0 = Sig.ent t' k c := rfl; rw [q0] at q1; rw [hrl] at m1 m2
          obtain ⟨bk, hbk⟩ : ∃ bk, bk = bs'.getD k 0 := ⟨_, rfl⟩
          rw [← hbk] at m2 q1 q2
          obtain ⟨x, hx⟩ : ∃ x, x = Sig.ent t' k c := ⟨_, rfl⟩
          rw [← hx] at q1; have HX := Aside0.mk hx; have HBK := Aside0.mk hbk; have HRL := Aside0.mk hrl; have f2 : decide ((k : Int) < (t.length : Int)) = true := decide_eq_true (by omega)
          have f3 : (0 : Int) ≤ (k : Int) := by omega
          have f4 : (k : Int) < (t.length : Int) := by omega
          have f5 : decide (k < t.length) = true := decide_eq_true hk
          have f6 : (0 : Int) ≤ (c : Int) := by omega
          have f7 : (c : Int) < (n : Int) := by omega
          have f8 : decide (c < n) = true := decide_eq_true (by omega); have f9 : ((k : Int) == (t.length : Int)) = false := beq_eq_false_iff_ne.2 (by omega); clear hx hbk hrl q0 m3 q2
          by_cases hz : x = 0
          · have hzb : (x == 0) = true := beq_iff_eq.2 hz
            have HZ := Aside0.mk hz; clear hz
            gi_wp2
            gi_roundg (t.length - (k + 1))
            case measure => omega
            case rel => exact ⟨k + 1, by omega, by omega, rfl, by go_num, (Sig.find_step hk' (HX.out.symm.trans HZ.out)).symm.trans HF.out, rfl⟩
          · have hzb : (x == 0) = false := beq_eq_false_iff_ne.2 hz
            have HZ := Aside0.mk hz; clear hz
            gi_wp2
            have hr' : ps.length < t'.length := by rw [HTL.out]; omega
            have hrT : ps.length < t.length := by omega
            have hkT := hk; obtain ⟨⟨cr, l1, n1⟩, z3⟩ := HD0.out.tab.main ps.length hr'; have z4 := (HD0.out.tab.main k hk').2; have hrr := (HI.out.rect _ (Sig.getD_mem hr')).1; rw [hrr] at l1 n1
            have g1 : (0 : Int) ≤ (ps.length : Int) := by omega
            have g2 : (ps.length : Int) < (t.length : Int) := by omega
            have g3 : decide (ps.length < t.length) = true := decide_eq_true hrT
            obtain ⟨br, hbr⟩ : ∃ br, br = bs'.getD ps.length 0 := ⟨_, rfl⟩
            rw [← hbr] at n1; have HBR := Aside0.mk hbr; have HRR := Aside0.mk hrr; clear hbr hrr q1; refine region_only (fun K' hK' => ?_); refine start_ (n := 16) (S := fun w' => w'.cell? ⟨w.heap.size, 0, none⟩ = some (.slice (some ⟨g, 0, none⟩) t.length cap) ∧ w'.cell? ⟨wo.heap.size, 0, none⟩ = some (.int .i64 (ps.length : Int)) ∧ w'.cell? ⟨g, k, none⟩ = some (.slice (some ⟨bk, 0, none⟩) n ck) ∧ w'.cell? ⟨g, ps.length, none⟩ = some (.slice (some ⟨br, 0, none⟩) n cr)) (ds := [13, 15]) #[false, false, false, false, false, false, false, false, false, false, false, false, false, false, false, false] (by kernel_rfl) rfl rfl ⟨e2', e6, m2, n1⟩ (fun hHeld => ?_); have hW3 : Below wr.heap.size wr wr.drew := (Below.refl _ _).drew; generalize wr.drew = W3 at hHeld hW3 ⊢
            obtain ⟨W4, hW4⟩ : ∃ W4, W3.setCell ⟨g, ps.length, none⟩ (.slice (some ⟨bk, 0, none⟩) n ck) = W4 := ⟨_, rfl⟩
            obtain ⟨W5, hW5⟩ : ∃ W5, W4.setCell ⟨g, k, none⟩ (.slice (some ⟨br, 0, none⟩) n cr) = W5 := ⟨_, rfl⟩
            have y3 : W3.frozen? ⟨g, ps.length, none⟩ = false := (hW3.frozen (p := ⟨g, ps.length, none⟩) (World.block_lt_of_cell? wr _ n1)).trans z3
            have y4 : W4.frozen? ⟨g, k, none⟩ = false := by rw [← hW4, World.frozen?_setCell]; exact (hW3.frozen (p := ⟨g, k, none⟩) (World.block_lt_of_cell? wr _ m2)).trans z4
            obtain ⟨vk, y5⟩ : ∃ vk, W4.cell? ⟨g, k, none⟩ = some vk := by
              rw [← hW4]
              by_cases e : ps.length = k
              · subst e; exact ⟨_, World.cell?_setCell_same' _ _ _ (by rw [hHeld.2.2.1]; rfl)⟩
              · exact ⟨_, (World.cell?_setCell_other W3 ⟨g, ps.length, none⟩ ⟨g, k, none⟩ _ (by intro e3; injection e3 with _ e3; exact e e3)).trans hHeld.2.2.1⟩
            have y6 : W4.cell? ⟨w.heap.size, 0, none⟩ = some (.slice (some ⟨g, 0, none⟩) t.length cap) := by
              rw [← hW4]; exact (World.cell?_setCell_far W3 ⟨g, ps.length, none⟩ ⟨w.heap.size, 0, none⟩ _ (by simp only; omega)).trans hHeld.1
            have HW4 := Aside0.mk hW4; have HW5 := Aside0.mk hW5; have HN := Aside0.mk n1; have HM := Aside0.mk m2; have HWB := Aside0.mk hW3; clear e2' e6 m2 n1 z3 z4 hW4 hW5 hW3; refine take_ (i := 0) (N := some 40) (v := ?_) (a' := ?_) #[true, false, false, false, false, false, false, false, false, false, false, false, false, false, false, false] rfl rfl (by kernel_rfl) (fun _ _ _ h => h) (Or.inl ⟨by rfl, ?_⟩) hHeld ?_ ?_; rotate_left
            · rintro w' ⟨s0, s1, s2, s3⟩
              go_simp
              with_reducible rfl
            rotate_left
            · simp only [Act.put, List.setIfInBounds_toArray, List.set_cons_zero, List.set_cons_succ, i64_w, i32_w]
              rfl
            refine take_ (i := 1) (N := some 41) (v := ?_) (a' := ?_) #[true, true, false, false, false, false, false, false, false, false, false, false, false, false, false, false] rfl rfl (by kernel_rfl) (fun _ _ _ h => h) (Or.inl ⟨by rfl, ?_⟩) hHeld ?_ ?_; rotate_left
            · rintro w' ⟨s0, s1, s2, s3⟩
              go_simp
              with_reducible rfl
            rotate_left
            · simp only [Act.put, List.setIfInBounds_toArray, List.set_cons_zero, List.set_cons_succ, i64_w, i32_w]
              rfl
            refine take_ (i := 4) (N := some 44) (v := ?_) (a' := ?_) #[true, true, false, false, true, false, false, false, false, false, false, false, false, false, false, false] rfl rfl (by kernel_rfl) (fun _ _ _ h => h) (Or.inl ⟨by rfl, ?_⟩) hHeld ?_ ?_; rotate_left
            · rintro w' ⟨s0, s1, s2, s3⟩
              go_simp
              with_reducible rfl
            rotate_left
            · simp only [Act.put, List.setIfInBounds_toArray, List.set_cons_zero, List.set_cons_succ, i64_w, i32_w]
              rfl
            refine pure_ (i := 5) (N := some 45) (v := ?_) (a' := ?_) #[true, true, false, false, true, true, false, false, false, false, false, false, false, false, false, false] rfl rfl (by kernel_rfl) (fun _ _ _ h => h) (Or.inl ⟨by rfl, ?_⟩) ?_ ?_; rotate_left
            · intro w'
              go_simp
              with_reducible rfl
            rotate_left
            · simp only [Act.put, List.setIfInBounds_toArray, List.set_cons_zero, List.set_cons_succ, i64_w, i32_w]
              rfl
            refine pure_ (i := 6) (N := some 46) (v := ?_) (a' := ?_) #[true, true, false, false, true, true, true, false, false, false, false, false, false, false, false, false] rfl rfl (by kernel_rfl) (fun _ _ _ h => h) (Or.inl ⟨by rfl, ?_⟩) ?_ ?_; rotate_left
            · intro w'
              go_simp
              with_reducible rfl
            rotate_left
            · simp only [Act.put, List.setIfInBounds_toArray, List.set_cons_zero, List.set_cons_succ, i64_w, i32_w]
              rfl
            refine take_ (i := 7) (N := some 47) (v := ?_) (a' := ?_) #[true, true, false, false, true, true, true, true, false, false, false, false, false, false, false, false] rfl rfl (by kernel_rfl) (fun _ _ _ h => h) (Or.inl ⟨by rfl, ?_⟩) hHeld ?_ ?_; rotate_left
            · rintro w' ⟨s0, s1, s2, s3⟩
              go_simp
              with_reducible rfl
            rotate_left
            · simp only [Act.put, List.setIfInBounds_toArray, List.set_cons_zero, List.set_cons_succ, i64_w, i32_w]
              rfl
            refine take_ (i := 8) (N := some 48) (v := ?_) (a' := ?_) #[true, true, false, false, true, true, true, true, true, false, false, false, false, false, false, false] rfl rfl (by kernel_rfl) (fun _ _ _ h => h) (Or.inl ⟨by rfl, ?_⟩) hHeld ?_ ?_; rotate_left
            · rintro w' ⟨s0, s1, s2, s3⟩
              go_simp
              with_reducible rfl
            rotate_left
            · simp only [Act.put, List.setIfInBounds_toArray, List.set_cons_zero, List.set_cons_succ, i64_w, i32_w]
              rfl
            refine take_ (i := 9) (N := some 49) (v := ?_) (a' := ?_) #[true, true, false, false, true, true, true, true, true, true, false, false, false, false, false, false] rfl rfl (by kernel_rfl) (fun _ _ _ h => h) (Or.inl ⟨by rfl, ?_⟩) hHeld ?_ ?_; rotate_left
            · rintro w' ⟨s0, s1, s2, s3⟩
              go_simp
              with_reducible rfl
            rotate_left
            · simp only [Act.put, List.setIfInBounds_toArray, List.set_cons_zero, List.set_cons_succ, i64_w, i32_w]
              rfl
            refine pure_ (i := 10) (N := some 50) (v := ?_) (a' := ?_) #[true, true, false, false, true, true, true, true, true, true, true, false, false, false, false, false] rfl rfl (by kernel_rfl) (fun _ _ _ h => h) (Or.inl ⟨by rfl, ?_⟩) ?_ ?_; rotate_left
            · intro w'
              go_simp
              with_reducible rfl
            rotate_left
            · simp only [Act.put, List.setIfInBounds_toArray, List.set_cons_zero, List.set_cons_succ, i64_w, i32_w]
              rfl
            refine take_ (i := 11) (N := some 51) (v := ?_) (a' := ?_) #[true, true, false, false, true, true, true, true, true, true, true, true, false, false, false, false] rfl rfl (by kernel_rfl) (fun _ _ _ h => h) (Or.inl ⟨by rfl, ?_⟩) hHeld ?_ ?_; rotate_left
            · rintro w' ⟨s0, s1, s2, s3⟩
              go_simp
              with_reducible rfl
            rotate_left
            · simp only [Act.put, List.setIfInBounds_toArray, List.set_cons_zero, List.set_cons_succ, i64_w, i32_w]
              rfl
            refine pure_ (i := 12) (N := some 52) (v := ?_) (a' := ?_) #[true, true, false, false, true, true, true, true, true, true, true, true, true, false, false, false] rfl rfl (by kernel_rfl) (fun _ _ _ h => h) (Or.inl ⟨by rfl, ?_⟩) ?_ ?_; rotate_left
            · intro w'
              go_simp
              with_reducible rfl
            rotate_left
            · simp only [Act.put, List.setIfInBounds_toArray, List.set_cons_zero, List.set_cons_succ, i64_w, i32_w]
              rfl
            refine pure_ (i := 3) (N := some 43) (v := ?_) (a' := ?_) #[true, true, false, true, true, true, true, true, true, true, true, true, true, false, false, false] rfl rfl (by kernel_rfl) (fun _ _ _ h => h) (Or.inl ⟨by rfl, ?_⟩) ?_ ?_; rotate_left
            · intro w'
              go_simp
              with_reducible rfl
            rotate_left
            · simp only [Act.put, List.setIfInBounds_toArray, List.set_cons_zero, List.set_cons_succ, i64_w, i32_w]
              rfl
            refine fork_ (i := 2) (j := 13) (N := 42) (v := .slice (some ⟨g, 0, none⟩) t.length cap) (w1 := W4) (a' := ?fa) #[true, true, true, true, true, true, true, true, true, true, true, true, true, false, false, false] #[true, true, false, true, true, true, true, true, true, true, true, true, true, true, false, false] #[true, true, true, true, true, true, true, true, true, true, true, true, true, true, false, false] rfl rfl rfl rfl (by decide) (by kernel_rfl) (Or.inl ⟨by rfl, ?hy⟩) (by rfl) ?hs1 ?ha ?hw2 ?hs2 ?h
            case ha =>
              simp only [Act.put, List.setIfInBounds_toArray, List.set_cons_zero, List.set_cons_succ, i64_w, i32_w]; rfl
            case hw2 => rfl
            case hs1 =>
              go_simp; exact HW4.out
            case hs2 =>
              go_simp; exact HW4.out
            case hy =>
              rintro w' (rfl | rfl)
              · obtain ⟨s0, s1, s2, s3⟩ := hHeld
                go_simp
              · go_simp
            refine pure_ (i := 14) (N := some 53) (v := ?_) (a' := ?_) #[true, true, true, true, true, true, true, true, true, true, true, true, true, true, true, false] rfl rfl (by kernel_rfl) (fun _ _ _ h => h) (Or.inl ⟨by rfl, ?_⟩) ?_ ?_; rotate_left
            · intro w'
              go_simp
              with_reducible rfl
            rotate_left
            · simp only [Act.put, List.setIfInBounds_toArray, List.set_cons_zero, List.set_cons_succ, i64_w, i32_w]
              rfl
            refine last_ (i := 15) (N := none) #[true, true, true, true, true, true, true, true, true, true, true, true, true, true, true, true] rfl rfl (by kernel_rfl) (by decide) (fun K hK => ?_); refine skip_ (w1 := ?_) (by rfl) rfl ?_ ?_; rotate_left
            · go_simp
              rfl
            refine hK.out _ _ ?_; clear hK K; rw [HW5.out]; refine done_ (by kernel_rfl) ?_
            show K' _ _
            refine hK' _ _ ?_
            have HD5 : Aside0 (RD w base g S t.length (.slice (some ⟨g, 0, none⟩) t.length cap) ((bs'.set ps.length (bs'.getD k 0)).set k (bs'.getD ps.length 0)) ((t'.set ps.length (t'.getD k [])).set k (t'.getD ps.length [])) ds W5) := Aside0.mk (by
              rw [← HW5.out, ← HW4.out, HBK.out, HBR.out]
              exact (HD0.out.below HWB.out).swap hrT hk HRR.out HRL.out (by rw [← HBR.out]; exact hHeld.2.2.2) (by rw [← HBK.out]; exact hHeld.2.2.1) l1 m1)
            have hgw := HD5.out.slt g HD5.out.sg
            have HR5 : Aside0 (Bx W5 wo.heap.size (.int .i64 (ps.length : Int))) := Aside0.mk (by
              rw [← HW5.out, ← HW4.out]
              exact ((HR0.out.below HWB.out).far (c := g) (by omega) _ _).far (c := g) (by omega) _ _)
            have HO5 : Aside0 (W5.ownsRow (w.heap.size + 1) 3 1 (.slice pA ps.length pc) ps.length (nums .i64 (ps.map fun (p : Nat) => (p : Int)))) := Aside0.mk (by
              rw [← HW5.out, ← HW4.out]
              exact own_far (own_far (own_below HO0.out HWB.out) (by omega) _) (by omega) _)
            clear hHeld HWB HN HM y3 y4 y5 y6 HD0 HO0 HR0 HW4 HW5; clear W3 W4; have hx0 := HX.out
            obtain ⟨b1, hb1⟩ : ∃ b1, b1 = (bs'.set ps.length (bs'.getD k 0)).set k (bs'.getD ps.length 0) := ⟨_, rfl⟩
            rw [← hb1] at HD5
            obtain ⟨t1, ht1⟩ : ∃ t1, t1 = (t'.set ps.length (t'.getD k [])).set k (t'.getD ps.length []) := ⟨_, rfl⟩
            rw [← ht1] at HD5
            have hrow : t1.getD ps.length [] = t'.getD k [] := by rw [ht1]; exact swap_at hr' hk'
            have HT1 := Aside0.mk ht1; have HROW := Aside0.mk hrow; have h1l := HD5.out.tlen
            have hr1 : ps.length < t1.length := by rw [h1l]; exact hrT
            obtain ⟨⟨c1, p1, p2⟩, p3⟩ := HD5.out.tab.main ps.length hr1; obtain ⟨p4, p5⟩ := HD5.out.tab.rows ps.length hr1 c (by rw [hrow, HRL.out]; omega)
            have p6 : (t1.getD ps.length []).getD c 0 = x := by rw [hrow]; exact hx0.symm
            rw [p6] at p4; rw [hrow, HRL.out] at p1 p2
            obtain ⟨bp, hbp⟩ : ∃ bp, bp = b1.getD ps.length 0 := ⟨_, rfl⟩
            rw [← hbp] at p2 p4 p5; have HBP := Aside0.mk hbp
            have hInF : Sig.InF x := by rw [hx0]; exact Sig.ent_inF HI.out.rect k c
            have HFI : Aside0 (field_Inverse.f x = some (Sig.finv x, 0)) := Aside0.mk (by
              unfold field_Inverse.f
              rw [if_neg (by have := HZ.out; unfold Sig.InF at hInF; omega)])
            have e2 := HD5.out.box.1; have e6 := HR5.out.1; have v1 := HD5.out.box.lt; have v2 := HR5.out.lt
            have v3 : g < W5.heap.size := by omega
            clear hx0 hb1 ht1 hrow h1l p3 p5 p6 hbp hInF
            gi_wp2_with (first | (refine ⟨trivial, ?_⟩; gi_at_call 123; refine (callsIn_wide.2 (field_Inverse.calls x (Sig.finv x) 0 _ HFI.out)).mono ?_; rintro e w5 ⟨rfl, ⟨nd, hnd⟩⟩; have hdr : Below W5.heap.size W5 w5 := (by rw [hnd]; exact pw_below_drewN (Below.refl _ _) nd); have HDW := Aside0.mk hdr; have v4 : w.heap.size < w5.heap.size := Nat.lt_of_lt_of_le v1 hdr.size; have v5 : wo.heap.size < w5.heap.size := Nat.lt_of_lt_of_le v2 hdr.size; have v6 : g < w5.heap.size := Nat.lt_of_lt_of_le v3 hdr.size; replace e2 := (hdr.cell (p := ⟨w.heap.size, 0, none⟩) v1).trans e2; replace e6 := (hdr.cell (p := ⟨wo.heap.size, 0, none⟩) v2).trans e6; replace p2 := (hdr.cell (p := ⟨g, ps.length, none⟩) v3).trans p2; clear hnd hdr v1 v2 v3 p4) | (refine ⟨trivial, ?_⟩; gi_at_call 185; refine (callsIn_wide.2 (after_c _ _ _ _ _)).mono ?_; rintro e w' ⟨rfl, rfl⟩))
            obtain ⟨W6, hW6⟩ : ∃ W6, ((w5.alloc (.cells #[.int .i64 (Sig.finv x)] 3)).alloc (.cells #[.slice (some ⟨bp, 0, none⟩) n c1] 23)).alloc (.cells #[.int .i64 (c : Int)] 3) = W6 := ⟨_, rfl⟩
            rw [hW6]
            have z6 : W6.heap.size = w5.heap.size + 1 + 1 + 1 := by rw [← hW6]; simp
            have hB6 : Below w5.heap.size w5 W6 := by rw [← hW6]; exact (((Below.refl _ w5).alloc (Nat.le_refl _) _).alloc (by simp) _).alloc (by simp; omega) _
            have b8 : Bx W6 w5.heap.size (.int .i64 (Sig.finv x)) := by
              rw [← hW6]; exact ((Bx.new w5 _ _).alloc _).alloc _
            have b9 : Bx W6 (w5.heap.size + 1) (.slice (some ⟨bp, 0, none⟩) n c1) := by
              rw [← hW6]; have := (Bx.new (w5.alloc (.cells #[.int .i64 (Sig.finv x)] 3)) (.slice (some ⟨bp, 0, none⟩) n c1) 23).alloc (.cells #[.int .i64 (c : Int)] 3); simpa using this
            have b10 : Bx W6 (w5.heap.size + 1 + 1) (.int .i64 (c : Int)) := by
              rw [← hW6]; have := Bx.new ((w5.alloc (.cells #[.int .i64 (Sig.finv x)] 3)).alloc (.cells #[.slice (some ⟨bp, 0, none⟩) n c1] 23)) (.int .i64 (c : Int)) 3; simpa using this
            have HD6 := Aside0.mk ((HD5.out.below HDW.out).below hB6); have HR6 := Aside0.mk ((HR5.out.below HDW.out).below hB6); have HO6 := Aside0.mk (own_below (own_below HO5.out HDW.out) hB6); have HB8 := Aside0.mk b8; have HB9 := Aside0.mk b9; have HB10 := Aside0.mk b10; have HZ6 := Aside0.mk z6; clear hB6 b8 b9 b10 z6 hW6 e2 e6 p2 HD5 HR5 HO5 HDW
            have hbpl : bp < w.heap.size := by rw [HBP.out]; exact HD6.out.slt _ (HD6.out.low _ hrT)
            obtain ⟨ar, har⟩ : ∃ ar, ar = t1.getD ps.length [] := ⟨_, rfl⟩
            have hal : ar.length = n := by rw [har, HROW.out]; exact HRL.out
            have haI : ∀ y ∈ ar, Sig.InF y := by rw [har, HROW.out]; exact (HI.out.rect _ (Sig.getD_mem hk')).2
            have haz : ∀ d, d < c → ar.getD d 0 = 0 := fun d hd => by rw [har, HROW.out]; exact HI.out.zero k d hk1 hk' hd
            obtain ⟨L, hL⟩ : ∃ L, L = Sig.times ar (Sig.finv x) := ⟨_, rfl⟩
            have hLL : L.length = n := by rw [hL, Sig.times_length]; exact hal
            have hLx : ∀ j, L.getD j 0 = ar.getD j 0 * Sig.finv x % 1073741789 := fun j => by rw [hL]; exact Sig.times_getD _ _ _
            have h0 : CJ W6 base g b1 t1 ps.length ar L c W6 := ⟨by rw [hL, times_start haI haz, har, set_self_row]; exact HD6.out.tab, Chg.refl _ _⟩
            have H0 := Aside0.mk h0; have HAL := Aside0.mk hal; have HLL := Aside0.mk hLL; have HLX := Aside0.mk hLx; have HAR := Aside0.mk har; have HL := Aside0.mk hL; clear h0 hal hLL hLx har hL haI haz
            refine range_all (by omega) rfl (enters_of Try.func206 (by kernel_rfl) rfl) (CJ W6 base g b1 t1 ps.length ar L) c (fun j => j = n)
              (fun j vs j' => j < n ∧ vs = #[.int .i64 (j : Int), .int .i64 (ar.getD j 0)] ∧ j' = j + 1) ?_ H0.out ?_ ?_ ?_ ?_
            · exact CJ.own _ _ _ _ _ _ _ _ (Nat.le_refl _)
            · rintro j vs j' ⟨_, rfl, _⟩; rfl
            · intro l W2 J _ hJI hJ hY hj0
              refine (after1_in (l := l) (J := J) (bcol := w5.heap.size + 1 + 1) (brow := w5.heap.size + 1) (br := bp) (col := c) (L := n) (cap := c1) (x := fun j => ar.getD j 0) (by omega) (fun j W hj => ?_) (fun j W hj0 hj => hY j _ _ W ⟨hj0, rfl, rfl⟩ hj) (by omega) W2 hj0).mono (fun e W' h => ⟨h.1, n, rfl, h.2⟩); obtain ⟨hT2, hC2⟩ := hJI j W hj; rw [← HBP.out] at hC2; refine ⟨HB10.out.chg hC2 (by omega), HB9.out.chg hC2 (by omega), fun hjn => ?_⟩; have hr := hT2.rows ps.length (by simpa using hr1); rw [getD_set_row hr1, if_pos rfl, ← HBP.out] at hr; have := (hr j (by rw [mixRow_length (HAL.out.trans HLL.out.symm), HAL.out]; exact hjn)).1; rw [mixRow_at (HAL.out.trans HLL.out.symm) (by rw [HAL.out]; exact hjn), if_neg (by omega)] at this; exact this
            · rintro l j vs j' W ⟨hjn, rfl, rfl⟩ hI
              have HI2 := Aside0.mk hI; clear hI; have hLj := HLX.out j
              obtain ⟨xj, hxj⟩ : ∃ xj, xj = ar.getD j 0 := ⟨_, rfl⟩
              rw [← hxj] at hLj ⊢; have HXJ := Aside0.mk hxj; have HLJ := Aside0.mk hLj; clear hxj hLj
              gi_wp2
              refine ⟨KeepsFrom.refl _ _, HI2.out, ?_⟩; clear HI2; rintro W2 ⟨hT2, hC2⟩
              have hmr : ((t1.set ps.length (mixRow ar L j)).getD ps.length []) = mixRow ar L j := by rw [getD_set_row hr1, if_pos rfl]
              have hml : (mixRow ar L j).length = n := by rw [mixRow_length (HAL.out.trans HLL.out.symm)]; exact HAL.out
              obtain ⟨⟨cr2, m1', m2⟩, _⟩ := hT2.main ps.length (by simpa using hr1); obtain ⟨q1, q2⟩ := hT2.rows ps.length (by simpa using hr1) j (by rw [hmr, hml]; exact hjn); rw [hmr, hml, ← HBP.out] at m2; rw [hmr, mixRow_at (HAL.out.trans HLL.out.symm) (by rw [HAL.out]; exact hjn), if_neg (by omega), ← HXJ.out, ← HBP.out] at q1; rw [← HBP.out] at q2; have hCB := hC2; rw [← HBP.out] at hCB; have hbk := World.block_lt_of_cell? W2 _ q1; have e2 := (HD6.out.box.chg hCB (by omega)).1; have e6 := (HR6.out.chg hCB (by omega)).1; have e8 := (HB8.out.chg hCB (by omega)).1; have HT2 := Aside0.mk hT2; have HC2 := Aside0.mk hC2; have HMR := Aside0.mk hmr; have HML := Aside0.mk hml
              have d1 : (0 : Int) ≤ (j : Int) := by omega
              have d2 : (j : Int) < (n : Int) := by omega
              have d3 : decide (j < n) = true := decide_eq_true hjn; clear hT2 hC2 hCB hmr hml m1'
              gi_wp2
              refine startIn_ (n := 10) (S := fun w' => w'.cell? ⟨w.heap.size, 0, none⟩ = some (.slice (some ⟨g, 0, none⟩) t.length cap) ∧ w'.cell? ⟨wo.heap.size, 0, none⟩ = some (.int .i64 (ps.length : Int)) ∧ w'.cell? ⟨g, ps.length, none⟩ = some (.slice (some ⟨bp, 0, none⟩) n cr2) ∧ w'.cell? ⟨w5.heap.size, 0, none⟩ = some (.int .i64 (Sig.finv x))) (ds := [9]) #[false, false, false, false, false, false, false, false, false, false] (by kernel_rfl) rfl rfl (by kernel_rfl) (fun h => by obtain ⟨_, _, h⟩ := h; exact h) ⟨e2, e6, m2, e8⟩ (fun hHeld => ?_); have hW2d : Below W2.heap.size W2 W2.drew := (Below.refl _ _).drew; generalize W2.drew = W3 at hHeld hW2d ⊢; have q3 : W3.cell? ⟨bp, j, none⟩ = some (.int .i64 xj) := (hW2d.cell (p := ⟨bp, j, none⟩) hbk).trans q1; clear e2 e6 e8 m2 q1; refine take_ (i := 0) (N := some 73) (v := ?_) (a' := ?_) #[true, false, false, false, false, false, false, false, false, false] rfl rfl (by kernel_rfl) (fun _ _ _ h => h) (Or.inl ⟨by rfl, ?_⟩) hHeld ?_ ?_; rotate_left
              · rintro w' ⟨s0, s1, s2, s3⟩
                go_simp
                with_reducible rfl
              rotate_left
              · simp only [Act.put, List.setIfInBounds_toArray, List.set_cons_zero, List.set_cons_succ, i64_w, i32_w]
                rfl
              refine take_ (i := 1) (N := some 74) (v := ?_) (a' := ?_) #[true, true, false, false, false, false, false, false, false, false] rfl rfl (by kernel_rfl) (fun _ _ _ h => h) (Or.inl ⟨by rfl, ?_⟩) hHeld ?_ ?_; rotate_left
              · rintro w' ⟨s0, s1, s2, s3⟩
                go_simp
                with_reducible rfl
              rotate_left
              · simp only [Act.put, List.setIfInBounds_toArray, List.set_cons_zero, List.set_cons_succ, i64_w, i32_w]
                rfl
              refine pure_ (i := 2) (N := some 75) (v := ?_) (a' := ?_) #[true, true, true, false, false, false, false, false, false, false] rfl rfl (by kernel_rfl) (fun _ _ _ h => h) (Or.inl ⟨by rfl, ?_⟩) ?_ ?_; rotate_left
              · intro w'
                go_simp
                with_reducible rfl
              rotate_left
              · simp only [Act.put, List.setIfInBounds_toArray, List.set_cons_zero, List.set_cons_succ, i64_w, i32_w]
                rfl
              refine take_ (i := 3) (N := some 76) (v := ?_) (a' := ?_) #[true, true, true, true, false, false, false, false, false, false] rfl rfl (by kernel_rfl) (fun _ _ _ h => h) (Or.inl ⟨by rfl, ?_⟩) hHeld ?_ ?_; rotate_left
              · rintro w' ⟨s0, s1, s2, s3⟩
                go_simp
                with_reducible rfl
              rotate_left
              · simp only [Act.put, List.setIfInBounds_toArray, List.set_cons_zero, List.set_cons_succ, i64_w, i32_w]
                rfl
              refine pure_ (i := 4) (N := some 77) (v := ?_) (a' := ?_) #[true, true, true, true, true, false, false, false, false, false] rfl rfl (by kernel_rfl) (fun _ _ _ h => h) (Or.inl ⟨by rfl, ?_⟩) ?_ ?_; rotate_left
              · intro w'
                go_simp
                with_reducible rfl
              rotate_left
              · simp only [Act.put, List.setIfInBounds_toArray, List.set_cons_zero, List.set_cons_succ, i64_w, i32_w]
                rfl
              refine pure_ (i := 5) (N := some 78) (v := ?_) (a' := ?_) #[true, true, true, true, true, true, false, false, false, false] rfl rfl (by kernel_rfl) (fun _ _ _ h => h) (Or.inl ⟨by rfl, ?_⟩) ?_ ?_; rotate_left
              · intro w'
                go_simp
                with_reducible rfl
              rotate_left
              · simp only [Act.put, List.setIfInBounds_toArray, List.set_cons_zero, List.set_cons_succ, i64_w, i32_w]
                rfl
              refine take_ (i := 6) (N := some 79) (v := ?_) (a' := ?_) #[true, true, true, true, true, true, true, false, false, false] rfl rfl (by kernel_rfl) (fun _ _ _ h => h) (Or.inl ⟨by rfl, ?_⟩) hHeld ?_ ?_; rotate_left
              · rintro w' ⟨s0, s1, s2, s3⟩
                go_simp
                with_reducible rfl
              rotate_left
              · simp only [Act.put, List.setIfInBounds_toArray, List.set_cons_zero, List.set_cons_succ, i64_w, i32_w]
                rfl
              refine one_ (i := 7) (N := some 80) #[true, true, true, true, true, true, true, true, false, false] rfl rfl (by kernel_rfl) (by decide) (fun K hK => ?_); refine goes_ Try.func65 (by kernel_rfl) rfl #[.int .i64 xj, .int .i64 (Sig.finv x)] (by rfl) rfl rfl (by (try simp only [List.map_toArray, List.map_cons, List.map_nil]); first | done | rfl) ?_; refine (mul_c _ _ _).mono ?_; rintro e w' ⟨rfl, ⟨nd, rfl⟩⟩; refine ⟨_, rfl, hK.out _ _ ⟨pw_cell_below (pw_below_drewN (Below.refl _ _) _) hHeld.1, pw_cell_below (pw_below_drewN (Below.refl _ _) _) hHeld.2.1, pw_cell_below (pw_below_drewN (Below.refl _ _) _) hHeld.2.2.1, pw_cell_below (pw_below_drewN (Below.refl _ _) _) hHeld.2.2.2⟩ (fun hHeld => ?_)⟩; clear hK K; refine pure_ (i := 8) (N := some 81) (v := ?_) (a' := ?_) #[true, true, true, true, true, true, true, true, true, false] rfl rfl (by kernel_rfl) (fun _ _ _ h => h) (Or.inl ⟨by rfl, ?_⟩) ?_ ?_; rotate_left
              · intro w'
                go_simp
                with_reducible rfl
              rotate_left
              · simp only [Act.put, List.setIfInBounds_toArray, List.set_cons_zero, List.set_cons_succ, i64_w, i32_w]
                rfl
              have hW5 := below_then hW2d hW2d.size (pw_below_drewN (Below.refl _ _) nd); have hfz : (W3.drewN nd).frozen? ⟨bp, j, none⟩ = false := (hW5.frozen (p := ⟨bp, j, none⟩) hbk).trans q2; refine last_ (i := 9) (N := none) #[true, true, true, true, true, true, true, true, true, true] rfl rfl (by kernel_rfl) (by decide) (fun K hK => ?_); refine skip_ (w1 := ?_) (by rfl) rfl ?_ ?_; rotate_left
              · go_simp
                rfl
              refine hK.out _ _ ?_; clear hK K; refine done_ (by kernel_rfl) ?_; refine ⟨?_, ?_⟩
              · exact ((keeps_below hW5).trans (KeepsOthers.setCell _ _ _)).from _
              · have hT5 := (HT2.out.below hW5).put (i := ps.length) (j := j) (by simpa using hr1) (by rw [HMR.out, HML.out]; exact hjn) (L.getD j 0)
                rw [HMR.out, mixRow_set (HAL.out.trans HLL.out.symm) (by rw [HAL.out]; exact hjn), List.set_set, ← HBP.out] at hT5; rw [← HLJ.out]; exact ⟨hT5, (HC2.out.then_below hW5).then_set (.inl HBP.out) _⟩
            · rintro D j W hD hjn ⟨hT2, hC2⟩ hK
              rw [hjn] at hT2; clear hjn j H0
              have hmx : t1.set ps.length (mixRow ar L n) = elim (scaled t' ps.length k c) ps.length c 0 := by
                rw [← HAL.out, mixRow_all (HAL.out.trans HLL.out.symm), HL.out, HAR.out, HROW.out, HT1.out, HX.out]; rfl
              rw [hmx] at hT2
              have hsl : (scaled t' ps.length k c).length = t.length := by rw [show (scaled t' ps.length k c).length = t'.length by simp [scaled]]; exact HTL.out
              have h7 := HD6.out.out hrT hT2 (by rw [elim_length]; exact hsl) hC2; have hCB := hC2; rw [← HBP.out] at hCB; have HD7 := Aside0.mk (h7.mark (HD6.out.marks.cons (D := D) (Nat.le_trans (Nat.le_of_lt HD6.out.box.lt) hD) hK hD (fun D' hb' hD' => (hC2.block D' (Array.getElem?_eq_some_iff.1 hD').1 (fun e => by have h1 := HBP.out; omega)).trans hD'))); have HR7 := Aside0.mk (HR6.out.chg hCB (by omega)); have HO7 := Aside0.mk (own_chg HO6.out hCB (fun _ _ => by omega)); have HSL := Aside0.mk hsl; clear hT2 hC2 hCB h7 hK hmx hsl HB8 HB9 HB10 HZ6 HLX HLL HL HAL HAR HROW HT1 HBP HD6 HR6 HO6 p1 hbpl hr1; have e2 := HD7.out.box.1
              gi_wp2
              clear e2
              gi_loopg [84] (t.length) (fun gk v84 w7 => ∃ i : Nat, i ≤ t.length ∧ gk = t.length - i ∧ v84 = .int .i64 (i : Int) ∧ RD w base g S t.length (.slice (some ⟨g, 0, none⟩) t.length cap) b1 (elim (scaled t' ps.length k c) ps.length c i) (markOf D :: ds) w7 ∧ Bx w7 wo.heap.size (.int .i64 (ps.length : Int)) ∧ w7.ownsRow (w.heap.size + 1) 3 1 (.slice pA ps.length pc) ps.length (nums .i64 (ps.map fun (p : Nat) => (p : Int))))
              case atStart => exact ⟨0, Nat.zero_le _, rfl, rfl, HD7.out, HR7.out, HO7.out⟩
              case round =>
                clear HD7 HR7 HO7; obtain ⟨i, hi, rfl, rfl, hD8, hR8, hO8⟩ := hrel; have e2 := hD8.box.1; have e6 := hR8.1; have HD8 := Aside0.mk hD8; have HR8 := Aside0.mk hR8; have HO8 := Aside0.mk hO8; clear hD8 hR8 hO8
                by_cases hiT : i < t.length
                · have y1 : decide ((i : Int) < (t.length : Int)) = true := decide_eq_true (by omega)
                  by_cases hie : i = ps.length
                  · have y2 : ((i : Int) == (ps.length : Int)) = true := beq_iff_eq.2 (by omega)
                    have HIE := Aside0.mk hie; clear hie
                    gi_wp2
                    gi_roundg (t.length - (i + 1))
                    case measure => omega
                    case rel =>
                      refine ⟨i + 1, by omega, rfl, by go_num, ?_, HR8.out, HO8.out⟩; rw [elim, if_pos HIE.out]; exact HD8.out
                  · have y2 : ((i : Int) == (ps.length : Int)) = false := beq_eq_false_iff_ne.2 (by omega)
                    have hel : (elim (scaled t' ps.length k c) ps.length c i).length = t.length := by rw [elim_length]; exact HSL.out
                    have hcl := clear_c wr base g cap b1 (elim (scaled t' ps.length k c) ps.length c i) i ps.length c n HD8.out.tab (rect_elim (scaled_rect HI.out.rect hr' hk') (by rw [HSL.out]; exact hrT) i (by rw [HSL.out]; exact hi)) (by rw [hel]; exact hiT) (by rw [hel]; exact hrT) hie (by omega) (by omega)
                      (fun d hd => scaled_zero hr' hk' (by rw [HTL.out]; exact hi) (HI.out.zero k d hk1 hk' hd)) (Nat.le_trans hb HD8.out.chg.size) (by rw [hel]; exact hcap)
                    rw [hel] at hcl; have HCL := Aside0.mk hcl; have HEL := Aside0.mk hel; clear hcl hel
                    gi_wp2_with (refine ⟨trivial, ?_⟩; gi_at_call 186; refine (callsIn_wide.2 HCL.out).mono ?_; rintro e w8 ⟨rfl, hT8, hC8⟩; have HT8 := Aside0.mk hT8; have HC8 := Aside0.mk hC8; clear hT8 hC8 HCL)
                    gi_roundg (t.length - (i + 1))
                    case measure => omega
                    case rel =>
                      have hlt := HD8.out.slt _ (HD8.out.low i hiT); refine ⟨i + 1, by omega, rfl, by go_num, ?_, HR8.out.chg HC8.out (by omega), own_chg HO8.out HC8.out (fun _ _ => by omega)⟩; rw [elim, if_neg hie]; exact HD8.out.out hiT HT8.out (by rw [List.length_set]; exact HEL.out) HC8.out
                · obtain rfl : i = t.length := by omega
                  have y1 : decide ((t.length : Int) < (t.length : Int)) = false := decide_eq_false (by omega); have HOA := Aside0.mk (own_below HO8.out ((Below.refl _ wr).alloc (Nat.le_refl _) (.cells #[.int .i64 (c : Int)] 3)))
                  have hpl : (ps.length + 1) * 8 ≤ 140737488355328 := by omega
                  have hsz := HD8.out.box.lt; obtain ⟨i0, hi0, hz0, hz1, hz2⟩ := info_parts (P := Try.prog) (e := 3) (z := .int .i64 0) (size := 1) (bytes := 8) (by kernel_rfl)
                  gi_wp2_with (gi_at_builtin; refine wpListIn_append_own _ rfl _ _ 23 rfl (w.heap.size + 1) 3 i0 (.int .i64 0) 1 8 (by kernel_rfl) hi0 hz0 hz1 hz2 rfl (by decide) _ _ _ rfl HOA.out ⟨wr.heap.size, 0, none⟩ 1 1 [.int .i64 (c : Int)] rfl ?qc1 ?qc2 ?qc3 ?qc4 ?qc5 ?qc6 ?_)
                  case qc1 => rfl
                  case qc2 =>
                    intro j u hj; have hj1 := (List.getElem?_eq_some_iff.1 hj).1
                    obtain rfl : j = 0 := by simpa using hj1
                    simp only [List.getElem?_cons_zero, Option.some.injEq] at hj; subst hj; exact (Bx.new wr (.int .i64 (c : Int)) 3).1
                  case qc3 => intro u hu; simp only [List.mem_singleton] at hu; subst hu; rfl
                  case qc4 => unfold maxLen; omega
                  case qc5 => omega
                  case qc6 => simp; omega
                  intro v' w9 hown hgrow hnil; have HW9 := Aside0.mk hown; have HG9 := Aside0.mk hgrow; clear hown hgrow hnil e2 e6 hi0 hz0 hz1 hz2 i0
                  gi_wp2
                  gi_roundg (many - (c + 1))
                  case measure => omega
                  case rel =>
                    refine ⟨c + 1, b1, by omega, rfl, by go_num, ?_⟩; rw [HST.out, step_some (HF.out.symm.trans (Sig.find_stop (fun _ => by rw [← HX.out]; exact HZ.out))) hk']
                    have he : elim (scaled t' ps.length k c) ps.length c t.length = Sig.pivot t' ps.length k c := by rw [← HTL.out]; exact elim_pivot hr' hk'
                    have h9 := (HD8.out.below ((Below.refl _ wr).alloc (Nat.le_refl _) (.cells #[.int .i64 (c : Int)] 3))).appended HOA.out HG9.out; rw [he] at h9; refine ⟨h9, ?_⟩; have h10 := HW9.out; simp only [List.length_append, List.length_cons, List.length_nil, List.map_append, List.map_cons, List.map_nil, nums_append]; exact h10
        · obtain rfl : k = t.length := by omega
          gi_wp2
          gi_roundg (many - (c + 1))
          case measure => omega
          case rel =>
            refine ⟨c + 1, bs', by omega, rfl, by go_num, ?_⟩; rw [HST.out, step_none (HF.out.symm.trans (Sig.find_stop (fun h => by rw [HTL.out] at h; omega)) |>.trans HTL.out.symm)]; exact ⟨HD0.out, HO0.out⟩
    · have f1 : decide ((c : Int) < (many : Int)) = false := decide_eq_false (by omega)
      obtain rfl : c = many := by omega
      gi_wp2
      exact leaves_marks (base := w.heap.size) (R := RedPost w base g bs t c) (fun W => Tab W base g bs' t' ∧ W.ownsRow (w.heap.size + 1) 3 1 (.slice pA ps.length pc) ps.length (nums .i64 (ps.map fun (p : Nat) => (p : Int))) ∧ Chg S w W)
        (fun W D hb hD hI => ⟨hI.1.kept (grownBy_putObj' W D (.deferred none)) (fun r e => by cases e; exact ⟨_, hD, rfl⟩), own_nocell hI.2.1 (grownBy_putObj' W D (.deferred none)) (fun r e => by cases e; exact ⟨_, hD, rfl⟩), hI.2.2.then_grown (grownBy_putObj' W D (.deferred none)) (fun k e => by cases e; exact .inr hb)⟩)
        (fun W hI => ⟨.slice pA ps.length pc, by simp [results, Try.results120, go_sem], .slice pA ps.length pc, bs', rfl, HD.out.len.trans hlb.symm, by rw [HRC.out]; exact hI.1, by rw [HRC.out]; exact own_mono hI.2.1 (Nat.le_succ _), by rw [← HS.out]; exact hI.2.2⟩) ds wo HD.out.marks ⟨HD.out.tab, HO.out, HD.out.chg⟩
end Go.Proofs.Ytdbamhckgaoibaa.P
namespace Go.Proofs.Ytdbamhckgaoibaa.P
open Go.RowKit Go.Proofs.YtdbamhckgaoibaaW.PrintWords Go.Proofs.YtdbamhckgaoibaaW.PrintLast Go.Proofs.YtdbamhckgaoibaaW.PrintMore
set_option linter.unusedVariables false
set_option linter.unusedSimpArgs false
def Says (g : Nat) (p : Int → Bool) : Prop := ∀ (x : Int) (W : World), Calls Try.prog g #[.int .i64 x] W fun e w' => e = .returned (.bool (p x)) ∧ Drawn0 W w'
def Found (p : Int → Bool) (l : List Int) (w : World) (e : Ending) (w' : World) : Prop := ∃ i : Int, e = .returned (.int .i64 i) ∧ decide (0 ≤ i) = l.any p ∧ Drawn0 w w'
theorem any_take_stop {p : Int → Bool} {l : List Int} {j : Nat} (hj : j < l.length) (h : p l[j] = true) : l.any p = true := by
  rw [List.any_eq_true]; exact ⟨l[j], List.getElem_mem hj, h⟩
theorem any_take_next {p : Int → Bool} {l : List Int} {j : Nat} (hj : j < l.length) (h0 : (l.take j).any p = false) (h : p l[j] = false) : (l.take (j + 1)).any p = false := by
  rw [List.take_succ_eq_append_getElem hj, List.any_append, h0]; simp [h]
set_option maxHeartbeats 1000000 in
theorem index_any {g : Nat} {p : Int → Bool} (hs : Says g p) (eg : ∀ args w, (callFunc g args).run Try.prog w = .ok (.enter g args) w) (A0 : Option Addr) (c0 : Nat) (l : List Int) (w : World) (hr : Kd.C (Kd.int .i64) w A0 l.length l) :
    Calls Try.prog 194 #[.slice A0 l.length c0, .func (.func g) #[] #[]] w (Found p l w) := by
  have HS := Aside0.mk hs; have HR := Aside0.mk hr; have hlen : l.length ≤ 9223372036854775807 := hr.2.1; clear hs hr
  go_enter Try.func194, Try.ntmps194
  go_wp2
  go_loopg [8] l.length (fun gk v8 w' => ∃ j : Nat, j + gk = l.length ∧ v8 = .int .i64 (j : Int) ∧ Aside0 ((l.take j).any p = false) ∧ Drawn0 w w')
  case atStart => exact ⟨0, by omega, rfl, ⟨by simp⟩, dr_⟩
  case round =>
    obtain ⟨j, hj, rfl, HA, ⟨m, rfl⟩⟩ := hrel
    by_cases hlt : j < l.length
    · have c1 : decide ((j : Int) < (l.length : Int)) = true := decide_eq_true (by omega)
      have c2 : decide (j < l.length) = true := decide_eq_true hlt; obtain ⟨ad, e, hx⟩ := Kd.at_int HR.out (j : Int) (by omega) (by omega); cases e; rw [Int.toNat_natCast] at hx
      have hrd : rd l (j : Int) = l[j] := by
        unfold rd
        rw [Int.toNat_natCast, List.getD_eq_getElem?_getD, List.getElem?_eq_getElem hlt]; rfl
      rw [hrd] at hx
      have c3 : (0 : Int) ≤ (j : Int) := by omega
      generalize hy : l[j] = y at hx; have HY := Aside0.mk hy; clear hy hrd; go_wp2_with fail; refine (HS.out _ _).mono ?_; rintro e w' ⟨rfl, ⟨nd, rfl⟩⟩
      cases hpy : p y with
      | true =>
        have hf : l.any p = true := any_take_stop hlt (by rw [HY.out]; exact hpy); have HF := Aside0.mk hf; clear hf hpy; go_wp2
        go_ret
        exact ⟨(j : Int), by first | rfl | simp, by rw [HF.out]; exact decide_eq_true (by omega), dr_⟩
      | false =>
        have HF := Aside0.mk (any_take_next hlt HA.out (by rw [HY.out]; exact hpy)); clear hpy; go_wp2
        go_roundg (gk - 1)
        case measure => omega
        case rel => exact ⟨j + 1, by omega, by go_num, HF, dr_⟩
    · have hje : j = l.length := by omega
      have c1 : decide ((j : Int) < (l.length : Int)) = false := decide_eq_false (by omega); have c2 : decide (j < l.length) = false := decide_eq_false (by omega)
      have hf : l.any p = false := by have := HA.out; rw [hje, List.take_length] at this; exact this
      have HF := Aside0.mk hf; clear hf hje; go_wp2
      go_ret
      exact ⟨-1, by first | rfl | simp, by rw [HF.out]; rfl, dr_⟩
theorem contains_any {g : Nat} {p : Int → Bool} (hs : Says g p) (eg : ∀ args w, (callFunc g args).run Try.prog w = .ok (.enter g args) w) (A0 : Option Addr) (c0 : Nat) (l : List Int) (w : World) (hr : Kd.C (Kd.int .i64) w A0 l.length l) :
    Calls Try.prog 161 #[.slice A0 l.length c0, .func (.func g) #[] #[]] w fun e w' => e = .returned (.bool (l.any p)) ∧ Drawn0 w w' := by
  have HS := Aside0.mk hs; have HR := Aside0.mk hr; have HE := Aside0.mk eg; clear hs hr eg
  have HG := fun W => index_any HS.out HE.out A0 c0 l W
  unfold Found at HG; generalize l.any p = b at HG ⊢; have HG := Aside0.mk HG
  go_enter Try.func161, Try.ntmps161
  go_wp2_with fail; refine (HG.out _ HR.out).mono ?_; rintro e w' ⟨i, rfl, hi, ⟨nd, rfl⟩⟩; go_wp2
  go_ret
  exact ⟨by first | rfl | simp, dr_⟩
def SaysL (g : Nat) (p : List Int → Bool) : Prop := ∀ (A : Option Addr) (c : Nat) (x : List Int) (W : World), Calls Try.prog g #[.slice A x.length c] W fun e w' => e = .returned (.bool (p x)) ∧ Drawn0 W w'
def FoundL (p : List Int → Bool) (l : List (List Int)) (w : World) (e : Ending) (w' : World) : Prop := ∃ i : Int, e = .returned (.int .i64 i) ∧ decide (0 ≤ i) = l.any p ∧ Drawn0 w w'
theorem anyL_take_stop {p : List Int → Bool} {l : List (List Int)} {j : Nat} (hj : j < l.length) (h : p l[j] = true) : l.any p = true := by
  rw [List.any_eq_true]; exact ⟨l[j], List.getElem_mem hj, h⟩
theorem anyL_take_next {p : List Int → Bool} {l : List (List Int)} {j : Nat} (hj : j < l.length) (h0 : (l.take j).any p = false) (h : p l[j] = false) : (l.take (j + 1)).any p = false := by
  rw [List.take_succ_eq_append_getElem hj, List.any_append, h0]; simp [h]
set_option maxHeartbeats 1000000 in
theorem indexL_any {g : Nat} {p : List Int → Bool} (hs : SaysL g p) (eg : ∀ args w, (callFunc g args).run Try.prog w = .ok (.enter g args) w) (A0 : Option Addr) (c0 : Nat) (l : List (List Int)) (w : World) (hr : Kd.C (Kd.slice 3 (Kd.int .i64)) w A0 l.length l) :
    Calls Try.prog 193 #[.slice A0 l.length c0, .func (.func g) #[] #[]] w (FoundL p l w) := by
  have HS := Aside0.mk hs; have HR := Aside0.mk hr; have hlen : l.length ≤ 9223372036854775807 := hr.2.1; clear hs hr
  go_enter Try.func193, Try.ntmps193
  go_wp2
  go_loopg [8] l.length (fun gk v8 w' => ∃ j : Nat, j + gk = l.length ∧ v8 = .int .i64 (j : Int) ∧ Aside0 ((l.take j).any p = false) ∧ Drawn0 w w')
  case atStart => exact ⟨0, by omega, rfl, ⟨by simp⟩, dr_⟩
  case round =>
    obtain ⟨j, hj, rfl, HA, ⟨m, rfl⟩⟩ := hrel
    by_cases hlt : j < l.length
    · have c1 : decide ((j : Int) < (l.length : Int)) = true := decide_eq_true (by omega)
      have c2 : decide (j < l.length) = true := decide_eq_true hlt; obtain ⟨ad, A1, c3, e, hx, hx2, hx3⟩ := at_L1 HR.out (j : Int) (by omega) (by omega); cases e; rw [Int.toNat_natCast] at hx
      have hrd : rd_L1 l (j : Int) = l[j] := by
        unfold rd_L1
        rw [Int.toNat_natCast, List.getD_eq_getElem?_getD, List.getElem?_eq_getElem hlt]; rfl
      rw [hrd] at hx; clear hx2 hx3
      have c4 : (0 : Int) ≤ (j : Int) := by omega
      generalize hy : l[j] = y at hx; have HY := Aside0.mk hy; clear hy hrd; go_wp2_with fail; refine (HS.out _ _ _ _).mono ?_; rintro e w' ⟨rfl, ⟨nd, rfl⟩⟩
      cases hpy : p y with
      | true =>
        have hf : l.any p = true := anyL_take_stop hlt (by rw [HY.out]; exact hpy); have HF := Aside0.mk hf; clear hf hpy; go_wp2
        go_ret
        exact ⟨(j : Int), by first | rfl | simp, by rw [HF.out]; exact decide_eq_true (by omega), dr_⟩
      | false =>
        have HF := Aside0.mk (anyL_take_next hlt HA.out (by rw [HY.out]; exact hpy)); clear hpy; go_wp2
        go_roundg (gk - 1)
        case measure => omega
        case rel => exact ⟨j + 1, by omega, by go_num, HF, dr_⟩
    · have hje : j = l.length := by omega
      have c1 : decide ((j : Int) < (l.length : Int)) = false := decide_eq_false (by omega); have c2 : decide (j < l.length) = false := decide_eq_false (by omega)
      have hf : l.any p = false := by have := HA.out; rw [hje, List.take_length] at this; exact this
      have HF := Aside0.mk hf; clear hf hje; go_wp2
      go_ret
      exact ⟨-1, by first | rfl | simp, by rw [HF.out]; rfl, dr_⟩
theorem containsL_any {g : Nat} {p : List Int → Bool} (hs : SaysL g p) (eg : ∀ args w, (callFunc g args).run Try.prog w = .ok (.enter g args) w) (A0 : Option Addr) (c0 : Nat) (l : List (List Int)) (w : World) (hr : Kd.C (Kd.slice 3 (Kd.int .i64)) w A0 l.length l) :
    Calls Try.prog 157 #[.slice A0 l.length c0, .func (.func g) #[] #[]] w fun e w' => e = .returned (.bool (l.any p)) ∧ Drawn0 w w' := by
  have HS := Aside0.mk hs; have HR := Aside0.mk hr; have HE := Aside0.mk eg; clear hs hr eg
  have HG := fun W => indexL_any HS.out HE.out A0 c0 l W
  unfold FoundL at HG; generalize l.any p = b at HG ⊢; have HG := Aside0.mk HG
  go_enter Try.func157, Try.ntmps157
  go_wp2_with fail; refine (HG.out _ HR.out).mono ?_; rintro e w' ⟨i, rfl, hi, ⟨nd, rfl⟩⟩; go_wp2
  go_ret
  exact ⟨by first | rfl | simp, dr_⟩
def outQ (x : Int) : Bool := decide (x < 0) || decide (1073741789 ≤ x)
theorem outQ_low {x : Int} (h : x < 0) : outQ x = true := by simp [outQ, h]
theorem outQ_high {x : Int} (h : ¬ x < 0) : outQ x = decide (1073741789 ≤ x) := by simp [outQ, h]
theorem says_numbers : Says 162 outQ := by
  intro x w
  by_cases h : x < 0
  · have b1 : decide (x < 0) = true := decide_eq_true h
    rw [outQ_low h]
    go_enter Try.func162, Try.ntmps162
    go_wp2
    go_ret
    exact ⟨rfl, dr_⟩
  · have b1 : decide (x < 0) = false := decide_eq_false h
    rw [outQ_high h]
    go_enter Try.func162, Try.ntmps162
    go_wp2
    go_ret
    exact ⟨rfl, dr_⟩
theorem says_linear : Says 205 outQ := by
  intro x w
  by_cases h : x < 0
  · have b1 : decide (x < 0) = true := decide_eq_true h
    rw [outQ_low h]
    go_enter Try.func205, Try.ntmps205
    go_wp2
    go_ret
    exact ⟨rfl, dr_⟩
  · have b1 : decide (x < 0) = false := decide_eq_false h
    rw [outQ_high h]
    go_enter Try.func205, Try.ntmps205
    go_wp2
    go_ret
    exact ⟨rfl, dr_⟩
theorem within_math (a b c : Int) : program_within.f a b c = some (decide (b ≤ a) && decide (a ≤ c)) := by
  unfold program_within.f
  by_cases h : b ≤ a <;> simp [h]
theorem within_c (a b c : Int) (w : World) : Calls Try.prog 159 #[.int .i64 a, .int .i64 b, .int .i64 c] w fun e w' => e = .returned (.bool (decide (b ≤ a) && decide (a ≤ c))) ∧ Drawn0 w w' :=
  program_within.calls a b c _ w (within_math a b c)
theorem outQ_within (x : Int) : outQ x = !(decide (0 ≤ x) && decide (x ≤ 1073741788)) := by
  unfold outQ
  by_cases h1 : x < 0 <;> by_cases h2 : 1073741789 ≤ x <;> simp [h1, h2] <;> omega
theorem says_odd : Says 158 outQ := by
  intro x w; rw [outQ_within]; have H := Aside0.mk (fun W => within_c x 0 1073741788 W); generalize (decide (0 ≤ x) && decide (x ≤ 1073741788)) = b at H ⊢
  go_enter Try.func158, Try.ntmps158
  go_wp2_with fail; refine (H.out _).mono ?_; rintro e w' ⟨rfl, ⟨nd, rfl⟩⟩; go_wp2
  go_ret
  exact ⟨by first | rfl | simp, dr_⟩
def noEl (x : Int) : Bool := !isEl x
theorem says_noEl : Says 175 noEl := by
  intro x w; unfold noEl; have H := Aside0.mk (fun W => group_Valid.calls x _ W rfl); generalize isEl x = b at H ⊢
  go_enter Try.func175, Try.ntmps175
  go_wp2_with fail; refine (H.out _).mono ?_; rintro e w' ⟨rfl, ⟨nd, rfl⟩⟩; go_wp2
  go_ret
  exact ⟨by first | rfl | simp, dr_⟩
def isLong (x : List Int) : Bool := decide (64 < x.length)
theorem says_long : SaysL 156 isLong := by
  intro A c x w
  have e : isLong x = decide (64 < (x.length : Int)) := by unfold isLong; congr 1; exact propext ⟨fun h => by omega, fun h => by omega⟩
  rw [e]; clear e
  go_enter Try.func156, Try.ntmps156
  go_wp2
  go_ret
  exact ⟨by first | rfl | simp, dr_⟩
def contains_outQ.f (l0 : List Int) : Option Bool := some (l0.any outQ)
theorem contains_outQ.calls (A0 : Option Addr) (c0 : Nat) (l0 : List Int) (r : Bool) (w : World) (hr0 : Kd.C (Kd.int .i64) w A0 l0.length l0) (hc0 : l0.length ≤ c0) (h : contains_outQ.f l0 = some r) :
    Calls Try.prog 161 #[.slice A0 l0.length c0, .func (.func 162) #[] #[]] w fun e w' => e = .returned (.bool r) ∧ Drawn0 w w' := by
  obtain rfl := Option.some.inj h; exact contains_any says_numbers (enters_of Try.func162 (by kernel_rfl) rfl) A0 c0 l0 w hr0
def contains_odd.f (l0 : List Int) : Option Bool := some (l0.any outQ)
theorem contains_odd.calls (A0 : Option Addr) (c0 : Nat) (l0 : List Int) (r : Bool) (w : World) (hr0 : Kd.C (Kd.int .i64) w A0 l0.length l0) (hc0 : l0.length ≤ c0) (h : contains_odd.f l0 = some r) :
    Calls Try.prog 161 #[.slice A0 l0.length c0, .func (.func 158) #[] #[]] w fun e w' => e = .returned (.bool r) ∧ Drawn0 w w' := by
  obtain rfl := Option.some.inj h; exact contains_any says_odd (enters_of Try.func158 (by kernel_rfl) rfl) A0 c0 l0 w hr0
def contains_oddL.f (l0 : List Int) : Option Bool := some (l0.any outQ)
theorem contains_oddL.calls (A0 : Option Addr) (c0 : Nat) (l0 : List Int) (r : Bool) (w : World) (hr0 : Kd.C (Kd.int .i64) w A0 l0.length l0) (hc0 : l0.length ≤ c0) (h : contains_oddL.f l0 = some r) :
    Calls Try.prog 161 #[.slice A0 l0.length c0, .func (.func 205) #[] #[]] w fun e w' => e = .returned (.bool r) ∧ Drawn0 w w' := by
  obtain rfl := Option.some.inj h; exact contains_any says_linear (enters_of Try.func205 (by kernel_rfl) rfl) A0 c0 l0 w hr0
def contains_noEl.f (l0 : List Int) : Option Bool := some (l0.any noEl)
theorem contains_noEl.calls (A0 : Option Addr) (c0 : Nat) (l0 : List Int) (r : Bool) (w : World) (hr0 : Kd.C (Kd.int .i64) w A0 l0.length l0) (hc0 : l0.length ≤ c0) (h : contains_noEl.f l0 = some r) :
    Calls Try.prog 161 #[.slice A0 l0.length c0, .func (.func 175) #[] #[]] w fun e w' => e = .returned (.bool r) ∧ Drawn0 w w' := by
  obtain rfl := Option.some.inj h; exact contains_any says_noEl (enters_of Try.func175 (by kernel_rfl) rfl) A0 c0 l0 w hr0
def contains_long.f (l0 : List (List Int)) : Option Bool := some (l0.any isLong)
theorem contains_long.calls (A0 : Option Addr) (c0 : Nat) (l0 : List (List Int)) (r : Bool) (w : World) (hr0 : Kd.C (Kd.slice 3 (Kd.int .i64)) w A0 l0.length l0) (hc0 : l0.length ≤ c0) (h : contains_long.f l0 = some r) :
    Calls Try.prog 157 #[.slice A0 l0.length c0, .func (.func 156) #[] #[]] w fun e w' => e = .returned (.bool r) ∧ Drawn0 w w' := by
  obtain rfl := Option.some.inj h; exact containsL_any says_long (enters_of Try.func156 (by kernel_rfl) rfl) A0 c0 l0 w hr0
end Go.Proofs.Ytdbamhckgaoibaa.P
namespace Go.Proofs.Ytdbamhckgaoibaa.P
open Go.RowKit Go.Proofs.YtdbamhckgaoibaaW.PrintWords Go.Proofs.YtdbamhckgaoibaaW.PrintLast Go.Proofs.YtdbamhckgaoibaaW.PrintMore
set_option linter.unusedVariables false
set_option linter.unusedSimpArgs false
theorem need_c (n : Int) (w : World) : Calls Try.prog 182 #[.bool true, .int .i64 n] w fun e w' => e = .returned (.tuple #[]) ∧ w = w' := by
  go_enter Try.func182, Try.ntmps182
  go_wp2
  go_end0
  exact ⟨rfl, rfl⟩
theorem caught_idle (p : Addr) (w : World) : CallsD Try.prog 117 #[.pointer (some p)] .returning w fun e u' w' => e = .returned (.tuple #[]) ∧ u' = .returning ∧ w' = w := by
  refine callsD_of_wpS Try.func117 rfl fun c₀ cs hu => ?_
  apply wpS_seq
  apply wpS_region
  simp [wpOpsS, go_sem, recoverD, hu, Try.ntmps117, Exit.thenS]
  apply wpS_seq
  apply wpS_region
  simp [wpOpsS, go_sem, recoverD, hu, Try.ntmps117, Exit.thenS]
  refine wpS_cond (t := false) (by simp [Act.eval, Array.replicate]) ?_; simp only [Bool.false_eq_true, if_false]; refine wpS_of_wp (wp_skip ?_); cases c₀
  simp_all [bodyPostS, results, Try.results117]
theorem rd_row {l : List (List Int)} {j : Nat} (hlt : j < l.length) : rd_L1 l (j : Int) = l[j] := by
  unfold rd_L1
  rw [Int.toNat_natCast, List.getD_eq_getElem?_getD, List.getElem?_eq_getElem hlt]; rfl
theorem outQ_inF {l : List Int} (h : ∀ x ∈ l, Sig.InF x) : l.any outQ = false := by
  rw [List.any_eq_false]; intro x hx; have := h x hx; unfold Sig.InF at this
  simp [outQ]
  omega
set_option maxHeartbeats 1000000 in
theorem check_c (A0 : Option Addr) (c0 : Nat) (l : List (List Int)) (n : Nat) (w : World) (hr : Kd.C (Kd.slice 3 (Kd.int .i64)) w A0 l.length l) (hR : Sig.Rect l n) (hn : n ≤ 64) :
    Calls Try.prog 183 #[.slice A0 l.length c0] w fun e w' => e = .returned (.tuple #[]) ∧ Drawn0 w w' := by
  have HR := Aside0.mk hr; have HRT := Aside0.mk hR; have hlen : l.length ≤ 9223372036854775807 := hr.2.1; clear hr hR
  go_enter Try.func183, Try.ntmps183
  go_wp2
  go_loopg [9] l.length (fun gk v9 w' => ∃ j : Nat, j + gk = l.length ∧ v9 = .int .i64 (j : Int) ∧ Drawn0 w w')
  case atStart => exact ⟨0, by omega, rfl, dr_⟩
  case round =>
    obtain ⟨j, hj, rfl, ⟨m, rfl⟩⟩ := hrel
    by_cases hlt : j < l.length
    · have c1 : decide ((j : Int) < (l.length : Int)) = true := decide_eq_true (by omega)
      have c2 : decide (j < l.length) = true := decide_eq_true hlt; obtain ⟨ad, A1, c3, e, hx, hx2, hx3⟩ := at_L1 HR.out (j : Int) (by omega) (by omega); cases e; rw [Int.toNat_natCast] at hx; have hyl := (HRT.out _ (List.getElem_mem hlt)).1; rw [rd_row hlt, hyl] at hx; clear hx2 hx3
      have c4 : (0 : Int) ≤ (j : Int) := by omega
      have c5 : decide ((n : Int) ≤ 64) = true := decide_eq_true (by omega); clear hyl; go_wp2_with (go_at_call 182; refine (need_c _ _).mono ?_; rintro e w' ⟨rfl, rfl⟩)
      go_roundg (gk - 1)
      case measure => omega
      case rel => exact ⟨j + 1, by omega, by go_num, dr_⟩
    · have c1 : decide ((j : Int) < (l.length : Int)) = false := decide_eq_false (by omega)
      go_wp2
      go_loopg [20] l.length (fun gk v20 w' => ∃ j : Nat, j + gk = l.length ∧ v20 = .int .i64 (j : Int) ∧ Drawn0 w w')
      case atStart => exact ⟨0, by omega, rfl, dr_⟩
      case round =>
        obtain ⟨i, hi, rfl, ⟨m2, rfl⟩⟩ := hrel; clear c1 hlt hj
        by_cases hlt : i < l.length
        · have c1 : decide ((i : Int) < (l.length : Int)) = true := decide_eq_true (by omega)
          have c2 : decide (i < l.length) = true := decide_eq_true hlt; obtain ⟨ad, A1, c3, e, hx, hx2, hx3⟩ := at_L1 HR.out (i : Int) (by omega) (by omega)
          have h0 : 0 < l.length := by omega
          obtain ⟨ad', A2, c3', e', hz, hz2, hz3⟩ := at_L1 HR.out ((0 : Nat) : Int) (by omega) (by omega); rw [e] at e'; injection e' with e'; subst e'; cases e; rw [Int.toNat_natCast] at hx hz; have hyl := (HRT.out _ (List.getElem_mem hlt)).1; have hy0 := (HRT.out _ (List.getElem_mem h0)).1; rw [rd_row hlt] at hx hx2 hx3; rw [rd_row h0, hy0] at hz; rw [Addr.add_zero'] at hz; have hq := outQ_inF (HRT.out _ (List.getElem_mem hlt)).2; generalize l[i] = y at hx hx2 hx3 hyl hq; have HX2 := Aside0.mk hx2; have hx4 := hx3; rw [hyl] at hx4; have HX4 := Aside0.mk hx4; clear hx4; have HQ := Aside0.mk hq
          have hc := fun W (hC : Kd.C (Kd.int .i64) W A1 y.length y) => contains_oddL.calls A1 c3 y (y.any outQ) W hC hx2 rfl
          rw [hq, hyl] at hc; rw [hyl] at hx; have HC := Aside0.mk hc; clear hx2 hx3 hz2 hz3 hq hc
          have c4 : (0 : Int) ≤ (i : Int) := by omega
          have c5 : (0 : Int) < (l.length : Int) := by omega
          have c6 : decide (0 < l.length) = true := decide_eq_true h0; go_wp2_with (first | (go_at_call 161; refine (HC.out _ (Kd.C_below HX4.out (by repeat (first | exact Below.refl _ _ | apply pw_below_drewN | apply below_drew1)))).mono ?_; rintro e w' ⟨rfl, ⟨nd, rfl⟩⟩) | (go_at_call 182; refine (need_c _ _).mono ?_; rintro e w' ⟨rfl, rfl⟩))
          go_roundg (gk - 1)
          case measure => omega
          case rel => exact ⟨i + 1, by omega, by go_num, dr_⟩
        · have c1 : decide ((i : Int) < (l.length : Int)) = false := decide_eq_false (by omega)
          go_wp2
          go_end0
          exact ⟨rfl, dr_⟩
theorem C_rows_one {W : World} {A : Option Addr} {x : List Int} {c : Nat} (hx : Kd.C (Kd.int .i64) W A x.length x) (hc : x.length ≤ c) (b : Nat) (hb : W.cell? ⟨b, 0, none⟩ = some (.slice A x.length c)) :
    Kd.C (Kd.slice 3 (Kd.int .i64)) W (some ⟨b, 0, none⟩) 1 [x] := by
  refine ⟨rfl, by decide, fun _ => ⟨⟨b, 0, none⟩, rfl, fun j p hj => ?_⟩⟩; have hj1 := (List.getElem?_eq_some_iff.1 hj).1
  obtain rfl : j = 0 := by simpa using hj1
  simp only [List.getElem?_cons_zero, Option.some.injEq] at hj; subst hj; refine ⟨[.slice A x.length c], rfl, ⟨A, c, rfl, hc, hx⟩, fun i u hu => ?_⟩; have hi1 := (List.getElem?_eq_some_iff.1 hu).1
  obtain rfl : i = 0 := by simpa using hi1
  simp only [List.getElem?_cons_zero, Option.some.injEq] at hu; subst hu; exact hb
set_option maxHeartbeats 1000000 in
theorem examine_c (A0 : Option Addr) (c0 : Nat) (l : List (List Int)) (A1 : Option Addr) (c1 : Nat) (x : List Int) (w : World) (hr0 : Kd.C (Kd.slice 3 (Kd.int .i64)) w A0 l.length l) (hr1 : Kd.C (Kd.int .i64) w A1 x.length x) (hc1 : x.length ≤ c1)
    (hR : Sig.RectT l x) (hl : l.length ≤ 64) (hx : x.length ≤ 64) :
    Calls Try.prog 118 #[.slice A0 l.length c0, .slice A1 x.length c1] w fun e w' => e = .returned (.tuple #[]) ∧ Below w.heap.size w w' := by
  have c5 : decide ((l.length : Int) ≤ 64) = true := decide_eq_true (by omega); have HC1 := Aside0.mk (check_c A0 c0 l x.length w hr0 hR.1 hx)
  have HC2 := Aside0.mk (fun (W : World) (hb : Below w.heap.size w W) (b : Nat) (hcell : W.cell? ⟨b, 0, none⟩ = some (.slice A1 x.length c1)) => check_c (some ⟨b, 0, none⟩) 1 [x] x.length W (C_rows_one (Kd.C_below hr1 hb) hc1 b hcell) (fun row hrow => by
    rw [List.mem_singleton.1 hrow]; exact ⟨rfl, hR.2⟩) hx)
  have HR0 := Aside0.mk hr0; have HRT := Aside0.mk hR
  by_cases h0 : 0 < l.length
  · obtain ⟨ad, A2, c2, e, hz, hz2, hz3⟩ := at_L1 hr0 ((0 : Nat) : Int) (by omega) (by omega)
    cases e; have hyl := (hR.1 _ (List.getElem_mem h0)).1; rw [rd_row h0, hyl, Int.toNat_natCast, Addr.add_zero'] at hz; have hblt := World.block_lt_of_cell? w _ hz; clear hr0 hr1 hR hz2 hz3 hyl hc1; have c6 : ((l.length : Int) == 0) = false := beq_eq_false_iff_ne.2 (by omega)
    have c7 : (0 : Int) < (l.length : Int) := by omega
    have c8 : decide (0 < l.length) = true := decide_eq_true h0
    go_enter Try.func118, Try.ntmps118
    go_wp2_with (first | (go_at_call 182; refine (need_c _ _).mono ?_; rintro e w' ⟨rfl, rfl⟩) | (go_at_call 183; refine HC1.out.mono ?_; rintro e w' ⟨rfl, ⟨nd, rfl⟩⟩; clear HC1) | (go_at_call 183; refine (HC2.out _ (by exact (pw_below_drewN (Below.refl _ _) nd).alloc (Nat.le_refl _) _) _ (by exact (Bx.new (w.drewN nd) (.slice A1 x.length c1) 23).1)).mono ?_; rintro e w2 ⟨rfl, ⟨nd2, hw2⟩⟩; have hb2 : Below w.heap.size w w2 := (by rw [hw2]; exact pw_below_drewN ((pw_below_drewN (Below.refl _ _) nd).alloc (Nat.le_refl _) _) nd2); have HB2 := Aside0.mk hb2; replace hz := (hb2.cell hblt).trans hz; clear hw2 hb2 HC2))
    go_end0
    exact ⟨rfl, HB2.out⟩
  · have hl0 : l.length = 0 := by omega
    rw [hl0] at HC1 c5 ⊢; clear hr0 hr1 hR HR0 HRT hc1
    go_enter Try.func118, Try.ntmps118
    go_wp2_with (first | (go_at_call 182; refine (need_c _ _).mono ?_; rintro e w' ⟨rfl, rfl⟩) | (go_at_call 183; refine HC1.out.mono ?_; rintro e w' ⟨rfl, ⟨nd, rfl⟩⟩; clear HC1) | (go_at_call 183; refine (HC2.out _ (by exact (pw_below_drewN (Below.refl _ _) nd).alloc (Nat.le_refl _) _) _ (by exact (Bx.new (w.drewN nd) (.slice A1 x.length c1) 23).1)).mono ?_; rintro e w2 ⟨rfl, ⟨nd2, hw2⟩⟩; have hb2 : Below w.heap.size w w2 := (by rw [hw2]; exact pw_below_drewN ((pw_below_drewN (Below.refl _ _) nd).alloc (Nat.le_refl _) _) nd2); have HB2 := Aside0.mk hb2; clear hw2 hb2 HC2))
    go_end0
    exact ⟨rfl, HB2.out⟩
theorem row_of {W : World} {base : Nat} {ok : Nat → Prop} {v : Value} {xs : List Int} (h : Kd.R (Kd.int .i64) 3 W base ok v xs) (hl : 0 < xs.length) :
    ∃ b c, v = .slice (some ⟨b, 0, none⟩) xs.length c ∧ xs.length ≤ c ∧ ok b ∧ base ≤ b ∧ b < W.heap.size ∧ RowAt W b xs := by
  obtain ⟨h0, inner, ho, hr⟩ := h
  rcases ho.2 with ⟨rfl, hn⟩ | ⟨g, cap, cur, rfl, hg, hh, hc1, hc2, hc3, hc4⟩
  · omega
  · refine ⟨g, cap, rfl, hc1, h0 g rfl, hg, (Array.getElem?_eq_some_iff.1 hh).1, fun j hj => ⟨?_, by simp [World.frozen?, hh]⟩⟩
    have hx : xs[j]? = some (xs.getD j 0) := by rw [List.getD_eq_getElem?_getD, List.getElem?_eq_getElem hj]; rfl
    have h1 : (inner.drop (j * 1)).take 1 = [.int .i64 (xs.getD j 0)] := hr.2 j _ hx; rw [Nat.mul_one] at h1
    have hi : inner[j]? = some (.int .i64 (xs.getD j 0)) := by
      have h2 : ((inner.drop j).take 1)[0]? = some (.int .i64 (xs.getD j 0)) := by rw [h1]; rfl
      rw [List.getElem?_take_of_lt (by omega), List.getElem?_drop, Nat.add_zero] at h2; exact h2
    have := ho.cells (g := g) rfl j _ hi
    rwa [add_plain] at this
theorem tab_of {W : World} {base : Nat} {ok : Nat → Prop} {v : Value} {t : List (List Int)} (h : Kd.S (Kd.slice 3 (Kd.int .i64)) 23 W base ok v t) (hl : 0 < t.length) (hrow : ∀ row ∈ t, 0 < row.length) :
    ∃ g cap bs, v = .slice (some ⟨g, 0, none⟩) t.length cap ∧ t.length ≤ cap ∧ bs.length = t.length ∧ Tab W base g bs t ∧ g < W.heap.size ∧ ∀ j, j < t.length → bs.getD j 0 < W.heap.size := by
  obtain ⟨f, h0, inner, ho, hr⟩ := h; rw [List.length_zipIdx] at ho
  rcases ho.2 with ⟨rfl, hn⟩ | ⟨g, cap, cur, rfl, hg, hh, hc1, hc2, hc3, hc4⟩
  · omega
  · have H : ∀ i, i < t.length → ∃ b c, W.cell? ⟨g, i, none⟩ = some (.slice (some ⟨b, 0, none⟩) (t.getD i []).length c) ∧ (t.getD i []).length ≤ c ∧ b ≠ g ∧ f b = i ∧ base ≤ b ∧ b < W.heap.size ∧ RowAt W b (t.getD i []) := by
      intro i hi
      have hx : t[i]? = some (t.getD i []) := by rw [List.getD_eq_getElem?_getD, List.getElem?_eq_getElem hi]; rfl
      obtain ⟨vi, h1, h2⟩ := hr.2 i (t.getD i [], i) (Kd.zip_at hx); obtain ⟨b, c, rfl, q1, q2, q3, q4, q5⟩ := row_of h2 (hrow _ (Sig.getD_mem hi)); refine ⟨b, c, ?_, q1, fun e => q2.1.2 (by rw [e]; rfl), q2.2, q3, q4, q5⟩; have h1 : (inner.drop (i * 1)).take 1 = [.slice (some ⟨b, 0, none⟩) (t.getD i []).length c] := h1; rw [Nat.mul_one] at h1
      have hii : inner[i]? = some (.slice (some ⟨b, 0, none⟩) (t.getD i []).length c) := by
        have h2 : ((inner.drop i).take 1)[0]? = some (.slice (some ⟨b, 0, none⟩) (t.getD i []).length c) := by rw [h1]; rfl
        rw [List.getElem?_take_of_lt (by omega), List.getElem?_drop, Nat.add_zero] at h2; exact h2
      have := ho.cells (g := g) rfl i _ hii
      rwa [add_plain] at this
    have H' : ∀ i, ∃ b, i < t.length → ∃ c, W.cell? ⟨g, i, none⟩ = some (.slice (some ⟨b, 0, none⟩) (t.getD i []).length c) ∧ (t.getD i []).length ≤ c ∧ b ≠ g ∧ f b = i ∧ base ≤ b ∧ b < W.heap.size ∧ RowAt W b (t.getD i []) := by
      intro i
      by_cases hi : i < t.length
      · obtain ⟨b, hb⟩ := H i hi; exact ⟨b, fun _ => hb⟩
      · exact ⟨0, fun h => absurd h hi⟩
    refine ⟨g, cap, (List.range t.length).map (fun i => (H' i).choose), rfl, hc1, by simp, ?_⟩
    have hb : ∀ i, i < t.length → ((List.range t.length).map (fun i => (H' i).choose)).getD i 0 = (H' i).choose := fun i hi => Sig.getD_map_range _ _ _ _ hi
    refine ⟨⟨hg, fun i hi => ?_, fun i hi => ?_, fun i j hi hj e => ?_, fun i hi => ⟨?_, by simp [World.frozen?, hh]⟩, fun i hi => ?_⟩, (Array.getElem?_eq_some_iff.1 hh).1, fun i hi => ?_⟩
    · rw [hb i hi]; obtain ⟨c, q1, q2, q3, q4, q5, q6, q7⟩ := (H' i).choose_spec hi; exact q5
    · rw [hb i hi]; obtain ⟨c, q1, q2, q3, q4, q5, q6, q7⟩ := (H' i).choose_spec hi; exact q3
    · rw [hb i hi, hb j hj] at e
      obtain ⟨c, q1, q2, q3, q4, q5, q6, q7⟩ := (H' i).choose_spec hi; obtain ⟨c', r1, r2, r3, r4, r5, r6, r7⟩ := (H' j).choose_spec hj; rw [e] at q4; exact q4.symm.trans r4
    · rw [hb i hi]; obtain ⟨c, q1, q2, q3, q4, q5, q6, q7⟩ := (H' i).choose_spec hi; exact ⟨c, q2, q1⟩
    · rw [hb i hi]; obtain ⟨c, q1, q2, q3, q4, q5, q6, q7⟩ := (H' i).choose_spec hi; exact q7
    · rw [hb i hi]; obtain ⟨c, q1, q2, q3, q4, q5, q6, q7⟩ := (H' i).choose_spec hi; exact q6
end Go.Proofs.Ytdbamhckgaoibaa.P
namespace Go.Proofs.Ytdbamhckgaoibaa.P
open Go.RowKit Go.Proofs.YtdbamhckgaoibaaW.PrintWords Go.Proofs.YtdbamhckgaoibaaW.PrintLast Go.Proofs.YtdbamhckgaoibaaW.PrintMore
set_option linter.unusedVariables false
set_option linter.unusedSimpArgs false
def CombPost (rows : List (List Int)) (target : List Int) (w : World) (e : Ending) (w' : World) : Prop :=
  ∃ v, e = .returned (.tuple #[v, .bool (Sig.combine rows target).isSome, .int .i64 0]) ∧ Kd.R (Kd.int .i64) 3 w' w.heap.size (fun _ => True) v ((Sig.combine rows target).getD []) ∧ Below w.heap.size w w'
theorem R_of_own {w : World} {base n : Nat} {ok : Nat → Prop} {v : Value} {xs : List Int} (h : w.ownsRow base 3 1 v n (nums .i64 xs)) (hn : xs.length = n) (hok : ∀ k, v.ownBlock = some k → ok k) : Kd.R (Kd.int .i64) 3 w base ok v xs := by
  subst hn; exact R_of_owns h hok
set_option maxRecDepth 100000 in
set_option maxHeartbeats 4000000 in
theorem combine_c (A0 : Option Addr) (c0 : Nat) (rows : List (List Int)) (A1 : Option Addr) (c1 : Nat) (target : List Int) (w : World) (hr0 : Kd.C (Kd.slice 3 (Kd.int .i64)) w A0 rows.length rows) (hc0 : rows.length ≤ c0) (hr1 : Kd.C (Kd.int .i64) w A1 target.length target) (hc1 : target.length ≤ c1)
    (hR : Sig.RectT rows target) (hl : rows.length ≤ 64) (h1 : 0 < target.length) (hx : target.length ≤ 64) :
    Calls Try.prog 92 #[.slice A0 rows.length c0, .slice A1 target.length c1] w (CombPost rows target w) := by
  have HE := Aside0.mk (fun (W : World) (hb : Below w.heap.size w W) => examine_c A0 c0 rows A1 c1 target W (Kd.C_below hr0 hb) (Kd.C_below hr1 hb) hc1 hR hl hx); have HT := Aside0.mk (fun (W : World) (hb : Below w.heap.size w W) => linear_turned.calls (target.length * (rows.length + 2) + 1) A0 c0 rows A1 c1 target (Sig.turned rows target) W (Kd.C_below hr0 hb) hc0 (Kd.C_below hr1 hb) hc1 (turned_math (by omega) (by omega) (fun row h => (hR.1 row h).1))); have htr := Sig.turned_rect hR; have htl := Sig.turned_length rows target
  have hcm : Sig.combine rows target = if Sig.fits (Sig.reduce (Sig.turned rows target) rows.length).1 (Sig.reduce (Sig.turned rows target) rows.length).2.length rows.length then some (Sig.combY (Sig.reduce (Sig.turned rows target) rows.length).1 (Sig.reduce (Sig.turned rows target) rows.length).2 rows.length) else none := rfl
  obtain ⟨hinv, hrl⟩ := Sig.inv_reduce htr rows.length (by omega)
  have hrd := fun (W : World) (B g cap : Nat) (bs : List Nat) (q1 : Tab W B g bs (Sig.turned rows target)) (q2 : bs.length = (Sig.turned rows target).length) (q3 : (Sig.turned rows target).length ≤ cap) (q4 : B ≤ W.heap.size) (q5 : g < W.heap.size) (q6 : ∀ j, j < (Sig.turned rows target).length → bs.getD j 0 < W.heap.size) => reduce_c W B g cap bs (Sig.turned rows target) rows.length (rows.length + 1) q1 q2 htr (by omega) (by omega) (by omega) q3 q4 q5 q6
  unfold RedPost at hrd; unfold CombPost; rw [hcm]
  have hrow : ∀ row ∈ Sig.turned rows target, 0 < row.length := fun row h => by have := (htr row h).1; omega
  generalize Sig.turned rows target = t0 at *; generalize hred : Sig.reduce t0 rows.length = st at *; obtain ⟨m, ps⟩ := st; simp only at hinv hrl hrd ⊢; have HRD := Aside0.mk hrd; have HINV := Aside0.mk hinv; have HROW := Aside0.mk hrow; have HTL := Aside0.mk htl; have HRL := Aside0.mk hrl; clear hr0 hr1 hR hcm hrd hinv hrow hred htr htl hrl
  obtain ⟨R, hRR⟩ : ∃ R : Ending → World → Prop, R = fun e w' => ∃ v, e = .returned (.tuple #[v, .bool (if Sig.fits m ps.length rows.length = true then some (Sig.combY m ps rows.length) else none).isSome, .int .i64 0]) ∧ Kd.R (Kd.int .i64) 3 w' w.heap.size (fun _ => True) v ((if Sig.fits m ps.length rows.length = true then some (Sig.combY m ps rows.length) else none).getD []) ∧ Below w.heap.size w w' := ⟨_, rfl⟩
  rw [← hRR]; have HRR := Aside0.mk hRR; clear hRR
  go_enter_defers Try.func92, Try.ntmps92
  go_wp2_with (first | (go_at_call 118; refine (HE.out _ (by exact (Below.refl _ _).alloc (Nat.le_refl _) _)).mono ?_; rintro e w1 ⟨rfl, hb1⟩; have HB1 := Aside0.mk (below_then ((Below.refl _ w).alloc (Nat.le_refl _) _) (by simp) hb1); have HX1 := Aside0.mk ((Bx.new w (.int .i64 0) 29).below hb1); clear hb1) | (go_at_call 169; refine (HT.out _ HB1.out).mono ?_; rintro e w2 ⟨v2, rfl, hS2, hb2⟩; have HS2 := Aside0.mk hS2; have HB2 := Aside0.mk hb2; clear hS2 hb2)); obtain ⟨g, cap, bs, rfl, hcap, hlb, hT, hg, hbl⟩ := tab_of HS2.out (by rw [HTL.out]; exact h1) HROW.out; have hge := hT.geg; have hges := hT.ge; refine (HRD.out w2 w1.heap.size g cap bs hT hlb hcap HB2.out.size hg hbl).mono ?_; rintro e w3 ⟨v3, bs', rfl, hlb', hT3, hO3, hC3⟩
  have hB3 : Below w1.heap.size w2 w3 := hC3.below HB2.out.size (fun k hk => by
    rcases hk with rfl | ⟨j, hj, rfl⟩
    · exact hge
    · exact hges j hj)
  have hB13 : Below w1.heap.size w1 w3 := HB2.out.trans hB3; have hX3 : Bx w3 w.heap.size (.int .i64 0) := HX1.out.below hB13; have hB : Below w.heap.size w w3 := HB1.out.trans (hB13.mono HB1.out.size); have hb1 := HX1.out.lt; have hs23 := hC3.size; obtain ⟨pA, pc, rfl⟩ := own_len hO3; have HT3 := Aside0.mk hT3; have HO3 := Aside0.mk hO3; have HX3 := Aside0.mk hX3; have HB := Aside0.mk hB; have hs12 := HB2.out.size; clear hT3 hO3 hX3 hB hT hlb hges hge hbl hC3 hB3 hB13 HE HT HRD HS2 HB1 HB2 HX1
  have hpf : ps.length ≤ t0.length := by rw [← HRL.out]; exact HINV.out.few
  have y1 : (0 : Int) ≤ (ps.length : Int) := by omega
  have y2 : (ps.length : Int) ≤ (t0.length : Int) := by omega
  have y3 : decide (ps.length ≤ t0.length) = true := decide_eq_true hpf
  obtain ⟨L, hL⟩ : ∃ L, L = t0.length - ps.length := ⟨_, rfl⟩
  obtain ⟨A28, C28, hsl, hA⟩ : ∃ A C, (∀ W : World, (Instr.sliceAt 134 (.slice (some ⟨g, 0, none⟩) t0.length cap) (some (.int .i64 (ps.length : Int))) none none).run Try.prog W = .ok (.slice A L C) W) ∧ (0 < L → A = some ⟨g, ps.length, none⟩) := by
    by_cases e : cap = ps.length
    · refine ⟨some ⟨g, 0, none⟩, cap - ps.length, fun W => ?_, fun h => by omega⟩
      simp [go_sem, y1, y2, e, hL]
    · refine ⟨some ⟨g, ps.length, none⟩, cap - ps.length, fun W => ?_, fun h => rfl⟩
      simp [go_sem, y1, y2, e, hL]
  have HA := Aside0.mk hA; have HLL := Aside0.mk hL; clear hA hL; go_wp2; clear hsl
  go_loopg [30] L (fun gk v30 w' => ∃ j : Nat, j ≤ L ∧ gk = L - j ∧ v30 = .int .i64 (j : Int) ∧ Aside0 (∀ i, ps.length ≤ i → i < ps.length + j → Sig.ent m i rows.length = 0) ∧ w' = w3)
  case atStart => exact ⟨0, Nat.zero_le _, rfl, rfl, ⟨fun i h1 h2 => by omega⟩, rfl⟩
  case round =>
    obtain ⟨j, hj, rfl, rfl, HZ, hwe⟩ := hrel; subst hwe
    by_cases hjL : j < L
    · have hi : ps.length + j < m.length := by have := HRL.out; have := HLL.out; omega
      have hlen := (HINV.out.rect _ (Sig.getD_mem hi)).1; obtain ⟨⟨ci, m1, m2⟩, m3⟩ := HT3.out.main _ hi; obtain ⟨q1, q2⟩ := HT3.out.rows _ hi rows.length (by omega); have q0 : (m.getD (ps.length + j) []).getD rows.length 0 = Sig.ent m (ps.length + j) rows.length := rfl; rw [q0] at q1; rw [hlen] at m2
      obtain ⟨bi, hbi⟩ : ∃ bi, bi = bs'.getD (ps.length + j) 0 := ⟨_, rfl⟩
      rw [← hbi] at m2 q1
      obtain ⟨x, hx⟩ : ∃ x, x = Sig.ent m (ps.length + j) rows.length := ⟨_, rfl⟩
      rw [← hx] at q1; have HX := Aside0.mk hx; have hAA := HA.out (by omega); subst hAA; have f1 : decide ((j : Int) < (L : Int)) = true := decide_eq_true (by omega)
      have f2 : (0 : Int) ≤ (j : Int) := by omega
      have f3 : (j : Int) < (L : Int) := by omega
      have f4 : decide (j < L) = true := decide_eq_true hjL
      have f5 : (0 : Int) ≤ (rows.length : Int) := by omega
      have f6 : (rows.length : Int) < ((rows.length + 1 : Nat) : Int) := by omega
      have f7 : decide (rows.length < rows.length + 1) = true := decide_eq_true (by omega); have hxc := HX3.out.1; have hxf := HX3.out.2; clear hx hbi q0 m3 q2 hlen m1
      by_cases hz : x = 0
      · have hzb : (x == 0) = true := beq_iff_eq.2 hz
        have HZ0 := Aside0.mk hz; clear hz hxc hxf; go_wp2
        go_roundg (L - (j + 1))
        case measure => omega
        case rel =>
          have hj64 : j < 64 := by have := HTL.out; have := HLL.out; omega
          refine ⟨j + 1, by omega, rfl, by rw [wrap_succ (by omega)], ⟨fun i h1 h2 => ?_⟩, rfl⟩
          by_cases h3 : i = ps.length + j
          · rw [h3, ← HX.out]; exact HZ0.out
          · exact HZ.out i h1 (by omega)
      · have hzb : (x == 0) = false := beq_eq_false_iff_ne.2 hz
        have HZ0 := Aside0.mk hz; clear hz; go_wp2; refine leaves_cons (f := 117) (args := #[.pointer (some ⟨w.heap.size, 0, none⟩)]) (by simp) (by simp [go_sem]) ?_; refine (caught_idle ⟨w.heap.size, 0, none⟩ _).mono ?_; rintro e u' w'' ⟨rfl, rfl, rfl⟩; have hcell : (wr.setCell ⟨w.heap.size, 0, none⟩ (.int .i64 0)).cell? ⟨w.heap.size, 0, none⟩ = some (.int .i64 0) := (HX3.out.set _).1
        have hres : ∀ W : World, W.cell? ⟨w.heap.size, 0, none⟩ = some (.int .i64 0) → Below w.heap.size w W → Sig.fits m ps.length rows.length = false → R (.returned (.tuple #[.slice none 0 0, .bool false, .int .i64 0])) W := fun W _ hW hf => by
          rw [HRR.out]; refine ⟨.slice none 0 0, ?_, ?_, hW⟩
          · rw [hf]; rfl
          · rw [hf]; exact Kd.R_nil _ _ _ _ _
        have hf : Sig.fits m ps.length rows.length = false := by
          rw [Bool.eq_false_iff]; intro h; exact HZ0.out (HX.out.trans (Sig.fits_spec.1 h _ (Nat.le_add_right _ _) hi))
        have hfin := hres _ hcell (HB.out.setCell (Nat.le_refl _) _) hf; clear hres hf HX3 HT3 HO3 HB
        simp [Leaves, settle, results, Try.results92, go_sem, hcell]
        exact hfin
    · obtain rfl : j = L := by omega
      have f1 : decide ((j : Int) < (j : Int)) = false := decide_eq_false (by omega); have hmk := print_make (P := Try.prog) 23 3 .i64 8 (by kernel_rfl) (by kernel_rfl) (by decide) rows.length (by omega); go_wp2; clear hmk; have hown := own_made wr wr.heap.size 3 .i64 rows.length (Nat.le_refl _) (by omega)
      obtain ⟨W4, hW4⟩ : ∃ W4, wr.alloc (.cells (madeCells #[.int .i64 0] rows.length) 3) = W4 := ⟨_, rfl⟩
      rw [hW4] at hown ⊢
      have hB4 : Below wr.heap.size wr W4 := by rw [← hW4]; exact (Below.refl _ _).alloc (Nat.le_refl _) _
      have HT4 := Aside0.mk (HT3.out.below hB4); have HO4 := Aside0.mk (own_below HO3.out hB4); have HX4 := Aside0.mk (HX3.out.below hB4); have HB4 := Aside0.mk (below_then HB.out HB.out.size hB4); have HY4 := Aside0.mk hown; have hsW := hB4.size; have hxl := HX3.out.lt
      have hgb : ∀ i, i < m.length → bs'.getD i 0 < wr.heap.size := fun i hi => by
        have h2 := (HINV.out.rect _ (Sig.getD_mem hi)).1; exact World.block_lt_of_cell? wr _ (HT3.out.rows i hi 0 (by omega)).1
      have hgw : g < wr.heap.size := by omega
      have HGB := Aside0.mk hgb
      have hpo : ∀ b, (Value.slice pA ps.length pc).ownBlock = some b → b < wr.heap.size := fun b hb => own_lt HO3.out b hb
      have HPO := Aside0.mk hpo; clear hpo; have hcomb : Sig.fits m ps.length rows.length = true := Sig.fits_spec.2 (fun i h1 h2 => HZ.out i h1 (by have := HLL.out; have := HRL.out; omega)); have HF := Aside0.mk hcomb; clear hown hB4 hW4 HT3 HO3 HX3 HB HZ hgb hcomb hsW
      have hpn : ∀ k, k < ps.length → ps.getD k 0 < rows.length := fun k hk => Sig.getD_low HINV.out.low hk
      have HPN := Aside0.mk hpn; clear hpn
      have hp64 : ps.length ≤ 64 := by have := HTL.out; omega
      obtain ⟨gy, hgy⟩ : ∃ gy, gy = wr.heap.size := ⟨_, rfl⟩
      rw [← hgy] at HY4 HGB HPO hgw hxl hs23 ⊢
      have hw2 : w.heap.size ≤ w2.heap.size := by omega
      clear hgy
      go_loopg [44] ps.length (fun gk v44 w' => ∃ k : Nat, k ≤ ps.length ∧ gk = ps.length - k ∧ v44 = .int .i64 (k : Int) ∧ w'.ownsRow gy 3 1 (.slice (some ⟨gy, 0, none⟩) rows.length rows.length) rows.length (nums .i64 (Sig.lay ps (fun k => Sig.ent m k rows.length) (List.replicate rows.length 0) k)) ∧ Chg (fun b => b = gy) W4 w')
      case atStart => exact ⟨0, Nat.zero_le _, rfl, rfl, HY4.out, Chg.refl _ _⟩
      case round =>
        obtain ⟨k, hk, rfl, rfl, hY, hC⟩ := hrel; have hX := HX4.out.chg hC (by omega); have HC := Aside0.mk hC
        by_cases hkp : k < ps.length
        · have hT := HT4.out.chg hC (by omega) (fun i hi e => by have := HGB.out i hi; omega)
          have hO := own_move HO4.out (fun b hb => hC.block b (own_lt HO4.out b hb) (fun e => by have := HPO.out b hb; omega))
          obtain ⟨gp, hgp⟩ : ∃ gp, pA = some ⟨gp, 0, none⟩ := by
            rcases hO.2 with ⟨_, h0⟩ | ⟨gp, cp, cur, h0, _⟩
            · omega
            · injection h0 with h0; exact ⟨gp, h0⟩
          subst hgp; obtain ⟨p1, _⟩ := own_at hO (k : Int) (by omega) (by omega)
          have e1 : rd (ps.map fun (p : Nat) => (p : Int)) (k : Int) = ((ps.getD k 0 : Nat) : Int) := by
            rw [rd_nat, List.getD_eq_getElem?_getD, List.getElem?_map, List.getD_eq_getElem?_getD, List.getElem?_eq_getElem hkp]; rfl
          rw [e1, Int.toNat_natCast] at p1; have hpk := HPN.out k hkp
          have hkm : k < m.length := by have := HRL.out; omega
          have hlen := (HINV.out.rect _ (Sig.getD_mem hkm)).1; obtain ⟨⟨ci, m1, m2⟩, m3⟩ := hT.main k hkm; obtain ⟨q1, q2⟩ := hT.rows k hkm rows.length (by omega); have q0 : (m.getD k []).getD rows.length 0 = Sig.ent m k rows.length := rfl; rw [q0] at q1; rw [hlen] at m2; have hstep : Sig.lay ps (fun k => Sig.ent m k rows.length) (List.replicate rows.length 0) (k + 1) = (Sig.lay ps (fun k => Sig.ent m k rows.length) (List.replicate rows.length 0) k).set (ps.getD k 0) (Sig.ent m k rows.length) := rfl; obtain ⟨s1, s2⟩ := own_at hY ((ps.getD k 0 : Nat) : Int) (by omega) (by omega); obtain ⟨s3, _⟩ := own_store hY ((ps.getD k 0 : Nat) : Int) (Sig.ent m k rows.length); rw [Int.toNat_natCast] at s1 s2 s3; rw [← hstep] at s3; have hst2 := hC.then_set (.inl rfl) (j := ps.getD k 0) (.int .i64 (Sig.ent m k rows.length)) (b := gy); have HS3 := Aside0.mk s3; have HS4 := Aside0.mk hst2; have HHX := Aside0.mk hX; have f2 : decide ((k : Int) < (ps.length : Int)) = true := decide_eq_true (by omega)
          have f3 : (0 : Int) ≤ (k : Int) := by omega
          have f4 : (k : Int) < (ps.length : Int) := by omega
          have f5 : decide (k < ps.length) = true := decide_eq_true hkp
          have f6 : (k : Int) < (t0.length : Int) := by have := HRL.out; omega
          have f7 : decide (k < t0.length) = true := decide_eq_true (by have := HRL.out; omega)
          have f8 : (0 : Int) ≤ (rows.length : Int) := by omega
          have f9 : (rows.length : Int) < ((rows.length + 1 : Nat) : Int) := by omega
          have f10 : decide (rows.length < rows.length + 1) = true := decide_eq_true (by omega)
          have f11 : (0 : Int) ≤ ((ps.getD k 0 : Nat) : Int) := by omega
          have f12 : ((ps.getD k 0 : Nat) : Int) < (rows.length : Int) := by omega
          have f13 : decide (ps.getD k 0 < rows.length) = true := decide_eq_true hpk; clear hT hO hY hC hX e1 hpk hlen m1 m3 q2 q0 hstep s3 hst2 HHX
          obtain ⟨pk, hpk⟩ : ∃ pk, pk = ps.getD k 0 := ⟨_, rfl⟩
          obtain ⟨bi, hbi⟩ : ∃ bi, bi = bs'.getD k 0 := ⟨_, rfl⟩
          obtain ⟨x, hx⟩ : ∃ x, x = Sig.ent m k rows.length := ⟨_, rfl⟩
          rw [← hpk] at p1 s1 s2 HS3 HS4 f11 f12 f13; rw [← hbi] at m2 q1; rw [← hx] at q1 HS3 HS4; clear hpk hbi hx; go_wp2
          go_roundg (ps.length - (k + 1))
          case measure => omega
          case rel => exact ⟨k + 1, by omega, rfl, by first | rfl | rw [wrap_succ (by omega)], HS3.out, HS4.out⟩
        · obtain rfl : k = ps.length := by omega
          have f2 : decide ((ps.length : Int) < (ps.length : Int)) = false := decide_eq_false (by omega); have hxc := hX.1; have hxf := hX.2; have hcell : (wr.setCell ⟨w.heap.size, 0, none⟩ (.int .i64 0)).cell? ⟨w.heap.size, 0, none⟩ = some (.int .i64 0) := (hX.set _).1
          have hfin : R (.returned (.tuple #[.slice (some ⟨gy, 0, none⟩) rows.length rows.length, .bool true, .int .i64 0])) (wr.setCell ⟨w.heap.size, 0, none⟩ (.int .i64 0)) := by
            rw [HRR.out]; refine ⟨.slice (some ⟨gy, 0, none⟩) rows.length rows.length, ?_, ?_, ?_⟩
            · rw [HF.out]; rfl
            · rw [HF.out]
              exact R_of_own (own_mono (own_far hY (b := w.heap.size) (j := 0) (by omega) (.int .i64 0)) (by omega)) (Sig.combY_length _ _ _) (fun _ _ => trivial)
            · exact (HB4.out.trans ((hC.below (base := w.heap.size) HB4.out.size (fun k e => by omega)))).setCell (Nat.le_refl _) _
          have HFIN := Aside0.mk hfin; clear hfin hX HX4 hC HC HF HRR hY HY4 HT4 HO4 HB4; go_wp2; refine leaves_cons (f := 117) (args := #[.pointer (some ⟨w.heap.size, 0, none⟩)]) (by simp) (by simp [go_sem]) ?_; refine (caught_idle ⟨w.heap.size, 0, none⟩ _).mono ?_; rintro e u' w'' ⟨rfl, rfl, rfl⟩
          simp [Leaves, settle, results, Try.results92, go_sem, hcell]
          exact HFIN.out
def rowOk (n : Nat) (r : List Int) : Bool := r.length == n && !r.any outQ
def combOk (rows : List (List Int)) (target : List Int) : Bool := rows.all (rowOk target.length) && rowOk target.length target && decide (rows.length ≤ 64) && decide (0 < target.length) && decide (target.length ≤ 64)
theorem inF_of {l : List Int} (h : l.any outQ = false) : ∀ x ∈ l, Sig.InF x := fun x hx => by
  have := List.any_eq_false.1 h x hx; unfold Sig.InF
  simp [outQ] at this
  omega
theorem rowOk_iff {n : Nat} {r : List Int} : rowOk n r = true ↔ r.length = n ∧ ∀ x ∈ r, Sig.InF x := by
  unfold rowOk; simp only [Bool.and_eq_true, beq_iff_eq, Bool.not_eq_true']; exact ⟨fun h => ⟨h.1, inF_of h.2⟩, fun h => ⟨h.1, outQ_inF h.2⟩⟩
theorem combOk_iff {rows : List (List Int)} {target : List Int} : combOk rows target = true ↔ Sig.RectT rows target ∧ rows.length ≤ 64 ∧ 0 < target.length ∧ target.length ≤ 64 := by
  unfold combOk; simp only [Bool.and_eq_true, decide_eq_true_eq, List.all_eq_true, rowOk_iff]; exact ⟨fun ⟨⟨⟨⟨h1, h2⟩, h3⟩, h4⟩, h5⟩ => ⟨⟨h1, h2.2⟩, h3, h4, h5⟩, fun ⟨⟨h1, h2⟩, h3, h4, h5⟩ => ⟨⟨⟨⟨h1, by first | rfl | trivial, h2⟩, h3⟩, h4⟩, h5⟩⟩
end Go.Proofs.Ytdbamhckgaoibaa.P
namespace Go.Proofs.Ytdbamhckgaoibaa.P
open Go.RowKit Go.Proofs.YtdbamhckgaoibaaW.PrintWords Go.Proofs.YtdbamhckgaoibaaW.PrintLast Go.Proofs.YtdbamhckgaoibaaW.PrintMore
theorem nums13_l0 (l : List Int) (hl : ∀ x ∈ l, Sig.InF x) (hs : l.length < 1000000) (K : Nat) : ∀ (d j : Nat), l.length - j = d → j ≤ l.length → signatoryref13_Numbers.l0 (K + d + 1) l (j : Int) = some true := by
  intro d
  induction d with
  | zero =>
    intro j hd hj; rw [signatoryref13_Numbers.l0, if_neg (by omega)]
  | succ d ih =>
    intro j hd hj
    have hlt : j < l.length := by omega
    have hi : Sig.InF (l.getD j 0) := by
      rw [List.getD_eq_getElem?_getD, List.getElem?_eq_getElem hlt]; exact hl _ (List.getElem_mem hlt)
    unfold Sig.InF at hi; rw [signatoryref13_Numbers.l0, if_pos (by omega), if_pos (by omega), rd_nat, if_neg (by omega), if_neg (by omega), wrap_succ (by omega)]; exact ih (j + 1) (by omega) (by omega)
theorem nums13_math (l : List Int) (hl : ∀ x ∈ l, Sig.InF x) (hs : l.length ≤ 1000) (k : Nat) (hk : 1002 ≤ k) : signatoryref13_Numbers.f k l = some true := by
  unfold signatoryref13_Numbers.f
  obtain ⟨k, rfl⟩ : ∃ k', k = k' + l.length + 1 := ⟨k - l.length - 1, by omega⟩
  exact nums13_l0 l hl (by omega) k l.length 0 rfl (by omega)
theorem check13_l1 (t : List (List Int)) (n : Nat) (hR : Sig.Rect t n) (hn : n ≤ 64) (ht : t.length ≤ 64) (K : Nat) (hK : 1500 ≤ K) : ∀ (d j : Nat), t.length - j = d → j ≤ t.length → signatoryref13_Check.l1 (K + d + 1) t (j : Int) = some 0 := by
  intro d
  induction d with
  | zero =>
    intro j hd hj; rw [signatoryref13_Check.l1, if_neg (by omega)]
  | succ d ih =>
    intro j hd hj
    have hlt : j < t.length := by omega
    have h1 := hR _ (Sig.getD_mem hlt); have h0 := hR _ (Sig.getD_mem (show 0 < t.length by omega)); have e0 : rd_L1 t (0 : Int) = t.getD 0 [] := rd_L1_nat t 0; rw [signatoryref13_Check.l1, if_pos (by omega), if_pos (by omega), if_pos (by omega), rd_L1_nat, e0, h1.1, h0.1, if_pos rfl, nums13_math _ h1.2 (by omega) _ (by omega), Option.bind_some, if_pos rfl, wrap_succ (by omega), ← Nat.add_assoc]; exact ih (j + 1) (by omega) (by omega)
theorem check13_l0 (t : List (List Int)) (n : Nat) (hR : Sig.Rect t n) (hn : n ≤ 64) (ht : t.length ≤ 64) (K : Nat) (hK : 2000 ≤ K) : ∀ (d j : Nat), t.length - j = d → j ≤ t.length → signatoryref13_Check.l0 (K + d + 1) t (j : Int) = some 0 := by
  intro d
  induction d with
  | zero =>
    intro j hd hj; rw [signatoryref13_Check.l0, if_neg (by omega)]
    obtain ⟨K, rfl⟩ : ∃ k', K = k' + t.length + 1 := ⟨K - t.length - 1, by omega⟩
    exact check13_l1 t n hR hn ht _ (by omega) t.length 0 rfl (by omega)
  | succ d ih =>
    intro j hd hj
    have hlt : j < t.length := by omega
    have h1 := hR _ (Sig.getD_mem hlt); rw [signatoryref13_Check.l0, if_pos (by omega), if_pos (by omega), rd_L1_nat, h1.1, if_neg (by omega), wrap_succ (by omega), ← Nat.add_assoc]; exact ih (j + 1) (by omega) (by omega)
theorem check13_math (t : List (List Int)) (n : Nat) (hR : Sig.Rect t n) (hn : n ≤ 64) (ht : t.length ≤ 64) (k : Nat) (hk : 3000 ≤ k) : signatoryref13_Check.f k t = some 0 := by
  unfold signatoryref13_Check.f
  obtain ⟨k, rfl⟩ : ∃ k', k = k' + t.length + 1 := ⟨k - t.length - 1, by omega⟩
  rw [if_neg (by omega)]; exact check13_l0 t n hR hn ht k (by omega) t.length 0 rfl (by omega)
theorem error13_math (t : List (List Int)) (x : List Int) (hR : Sig.RectT t x) (hn : x.length ≤ 64) (ht : t.length ≤ 64) (k : Nat) (hk : 3000 ≤ k) : signatoryref13_Error.f k t x = some 0 := by
  unfold signatoryref13_Error.f; rw [check13_math t x.length hR.1 hn ht k hk, Option.bind_some, if_pos rfl, if_neg (by omega), nums13_math x hR.2 (by omega) k (by omega), Option.bind_some, if_pos rfl]; have e0 : rd_L1 t (0 : Int) = t.getD 0 [] := rd_L1_nat t 0
  by_cases h0 : 0 < t.length
  · have h1 := hR.1 _ (Sig.getD_mem h0)
    rw [if_pos (by omega), if_pos (by omega), e0, h1.1, if_pos rfl]
  · rw [if_neg (by omega)]
def colOf (t : List (List Int)) (c : Nat) : List Int := t.map fun r => r.getD c 0
theorem turned13_l1 (t : List (List Int)) (n many c : Nat) (out : List (List Int)) (hR : ∀ r ∈ t, r.length = n) (hc : c < n) (ht : t.length ≤ 1000) (ho : out.length ≤ 1000) (hm : c < 1000) (K : Nat) : ∀ (d j : Nat) (u : List Int), t.length - j = d → j ≤ t.length → u = (colOf t c).take j →
    signatoryref13_Turned.l1 (K + d + 1) t (many : Int) out (c : Int) u (j : Int) = signatoryref13_Turned.l0 K t (many : Int) (out ++ [colOf t c]) ((c + 1 : Nat) : Int) := by
  intro d
  induction d with
  | zero =>
    intro j u hd hj hu
    obtain rfl : j = t.length := by omega
    rw [List.take_of_length_le (by unfold colOf; simp)] at hu; subst hu; rw [signatoryref13_Turned.l1, if_neg (by omega), if_pos (by omega), wrap_succ (by omega)]
  | succ d ih =>
    intro j u hd hj hu
    have hlt : j < t.length := by omega
    have h1 := hR _ (Sig.getD_mem hlt)
    have hul : u.length = j := by rw [hu, List.length_take]; unfold colOf; rw [List.length_map]; omega
    rw [signatoryref13_Turned.l1, if_pos (by omega), if_pos (by omega), if_pos (by omega), rd_L1_nat, h1, if_pos (by omega), if_pos (by omega), rd_nat, wrap_succ (by omega), ← Nat.add_assoc]; refine ih (j + 1) _ (by omega) (by omega) ?_
    have hcl : (colOf t c).length = t.length := by unfold colOf; rw [List.length_map]
    rw [hu, List.take_succ_eq_append_getElem (by omega)]
    congr 2
    unfold colOf; rw [List.getElem_map, List.getD_eq_getElem?_getD (l := t), List.getElem?_eq_getElem hlt]; rfl
theorem turned13_l0 (t : List (List Int)) (n many : Nat) (hR : ∀ r ∈ t, r.length = n) (hm : many ≤ n ∨ t = []) (ht : t.length ≤ 1000) (hmm : many ≤ 900) : ∀ (d c : Nat), many - c = d → c ≤ many → ∀ K, 1100 + 1100 * d < K →
    signatoryref13_Turned.l0 K t (many : Int) ((List.range c).map (colOf t)) (c : Int) = some ((List.range many).map (colOf t)) := by
  intro d
  induction d with
  | zero =>
    intro c hd hc K hK
    obtain rfl : c = many := by omega
    obtain ⟨K, rfl⟩ : ∃ k', K = k' + 1 := ⟨K - 1, by omega⟩
    rw [signatoryref13_Turned.l0, if_neg (by omega)]
  | succ d ih =>
    intro c hd hc K hK
    obtain ⟨K, rfl⟩ : ∃ k', K = k' + t.length + 1 + 1 := ⟨K - t.length - 1 - 1, by omega⟩
    have hK2 : 1100 + 1100 * d < K := by clear ih; omega
    have e : signatoryref13_Turned.l1 (K + t.length + 1) t (many : Int) ((List.range c).map (colOf t)) (c : Int) [] 0 = signatoryref13_Turned.l0 K t (many : Int) ((List.range c).map (colOf t) ++ [colOf t c]) ((c + 1 : Nat) : Int) := by
      rcases hm with hm | hm
      · exact turned13_l1 t n many c ((List.range c).map (colOf t)) hR (by omega) ht (by simp; omega) (by omega) K t.length 0 [] rfl (by omega) (by simp)
      · subst hm
        rw [show K + ([] : List (List Int)).length + 1 = K + 1 from rfl, signatoryref13_Turned.l1, if_neg (by simp), if_pos (by simp; omega), wrap_succ (by omega)]; rfl
    rw [signatoryref13_Turned.l0, if_pos (by omega)]; refine Eq.trans e ?_; rw [show (List.range c).map (colOf t) ++ [colOf t c] = (List.range (c + 1)).map (colOf t) by rw [List.range_succ, List.map_append]; rfl]; exact ih (c + 1) (by omega) (by omega) K hK2
theorem turned13_math (t : List (List Int)) (n many : Nat) (hR : ∀ r ∈ t, r.length = n) (hm : many ≤ n ∨ t = []) (ht : t.length ≤ 64) (hmm : many ≤ 64) (k : Nat) (hk : 80000 ≤ k) : signatoryref13_Turned.f k t (many : Int) = some ((List.range many).map (colOf t)) := by
  unfold signatoryref13_Turned.f; exact turned13_l0 t n many hR hm (by omega) (by omega) many 0 rfl (by omega) k (by omega)
def onto (t : List (List Int)) (x : List Int) : List (List Int) := (List.range x.length).map fun k => colOf t k ++ [x.getD k 0]
theorem onto_turned (t : List (List Int)) (x : List Int) : onto t x = Sig.turned t x := rfl
theorem comb13_l0 (t : List (List Int)) (x : List Int) (ht : t.length ≤ 64) (hx : x.length ≤ 64) (K : Nat) : ∀ (d j : Nat) (u : List (List Int)), x.length - j = d → j ≤ x.length → u = (onto t x).take j ++ ((List.range x.length).map (colOf t)).drop j →
    signatoryref13_Combine.l0 (K + d + 1) t x u (j : Int) = (signatoryref13_RedS.f (Sig.turned t x) (t.length : Int)).bind fun bt241 => signatoryref13_Combine.l1 K t bt241.1 bt241.2 (bt241.2.length : Int) := by
  intro d
  induction d with
  | zero =>
    intro j u hd hj hu
    obtain rfl : j = x.length := by omega
    rw [List.take_of_length_le (by unfold onto; simp), List.drop_eq_nil_of_le (by simp), List.append_nil] at hu; subst hu; rw [signatoryref13_Combine.l0, if_neg (by unfold onto; simp), onto_turned]
  | succ d ih =>
    intro j u hd hj hu
    have hlt : j < x.length := by omega
    have hol : (onto t x).length = x.length := by unfold onto; rw [List.length_map, List.length_range]
    have hcl : ((List.range x.length).map (colOf t)).length = x.length := by rw [List.length_map, List.length_range]
    have hul : u.length = x.length := by rw [hu, List.length_append, List.length_take, List.length_drop]; omega
    have huj : u.getD j [] = colOf t j := by
      rw [hu, List.getD_eq_getElem?_getD, List.getElem?_append_right (by rw [List.length_take]; omega), List.length_take, Nat.min_eq_left (by omega), Nat.sub_self, List.getElem?_drop, Nat.add_zero, List.getElem?_map, List.getElem?_range hlt]; rfl
    have hcj : (colOf t j).length = t.length := by unfold colOf; rw [List.length_map]
    rw [signatoryref13_Combine.l0, if_pos (by omega), if_pos (by omega), if_pos (by omega), rd_L1_nat, huj, if_pos (by omega), rd_nat, wrap_succ (by omega), ← Nat.add_assoc, Int.toNat_natCast]; refine ih (j + 1) _ (by omega) (by omega) ?_; rw [hu]; exact take_set_drop ((List.range x.length).map (colOf t)) (onto t x) _ (by omega) (by omega) (by unfold onto; rw [List.getElem_map, List.getElem_range])
theorem comb13_l2 (t m : List (List Int)) (ps : List Nat) (n : Nat) (hn : t.length = n) (hp : Sig.Places ps n) (hm : ∀ r ∈ m, r.length = n + 1) (hps : ps.length ≤ m.length) (hml : m.length ≤ 64) (K : Nat) : ∀ (d j : Nat), ps.length - j = d → j ≤ ps.length →
    signatoryref13_Combine.l2 (K + d + 1) t m (ps.map fun (x : Nat) => (x : Int)) (Sig.lay ps (fun k => Sig.ent m k n) (List.replicate n 0) j) (j : Int) = some (Sig.combY m ps n, true, 0) := by
  intro d
  induction d with
  | zero =>
    intro j hd hj
    obtain rfl : j = ps.length := by omega
    rw [signatoryref13_Combine.l2, if_neg (by simp)]; rfl
  | succ d ih =>
    intro j hd hj
    have hlt : j < ps.length := by omega
    have hl : (m.getD j []).length = n + 1 := hm _ (Sig.getD_mem (by omega)); have hq := hp.2 j hlt
    have hpj : rd (ps.map fun (x : Nat) => (x : Int)) (j : Int) = ((ps.getD j 0 : Nat) : Int) := by
      rw [rd_nat, List.getD_eq_getElem?_getD, List.getElem?_map, List.getD_eq_getElem?_getD, List.getElem?_eq_getElem hlt]; rfl
    have hyl : (Sig.lay ps (fun k => Sig.ent m k n) (List.replicate n 0) j).length = n := by rw [Sig.lay_length, List.length_replicate]
    rw [signatoryref13_Combine.l2, List.length_map, if_pos (by omega), if_pos (by omega), if_pos (by omega), if_pos (by omega), rd_L1_nat, hl, if_pos (by omega), hpj, if_pos (by omega), hyl, if_pos (by omega), hn, rd_nat, wrap_succ (by omega), ← Nat.add_assoc, Int.toNat_natCast]; exact ih (j + 1) (by omega) (by omega)
theorem fits_stop {m : List (List Int)} {r n : Nat} {j : Nat} (h1 : r ≤ j) (h2 : j < m.length) (h3 : Sig.ent m j n ≠ 0) : Sig.fits m r n = false := by
  cases h : Sig.fits m r n with
  | false => rfl
  | true => exact absurd (Sig.fits_spec.1 h j h1 h2) h3
theorem comb13_l1 (t m : List (List Int)) (ps : List Nat) (n : Nat) (hn : t.length = n) (hnn : n ≤ 64) (hp : Sig.Places ps n) (hm : ∀ r ∈ m, r.length = n + 1) (hps : ps.length ≤ m.length) (hml : m.length ≤ 64) (K : Nat) (hK : 200 ≤ K) : ∀ (d j : Nat), m.length - j = d → ps.length ≤ j → j ≤ m.length → (∀ i, ps.length ≤ i → i < j → Sig.ent m i n = 0) →
    signatoryref13_Combine.l1 (K + d + 1) t m (ps.map fun (x : Nat) => (x : Int)) (j : Int) = some (if Sig.fits m ps.length n then (Sig.combY m ps n, true, 0) else ([], false, 0)) := by
  intro d
  induction d with
  | zero =>
    intro j hd hj0 hj hz
    obtain rfl : j = m.length := by omega
    rw [signatoryref13_Combine.l1, if_neg (by omega), if_pos (by omega), if_pos (by omega), Int.toNat_natCast, hn, if_pos (Sig.fits_spec.2 fun i h1 h2 => hz i h1 h2)]
    obtain ⟨K, rfl⟩ : ∃ k', K = k' + ps.length + 1 := ⟨K - ps.length - 1, by omega⟩
    exact comb13_l2 t m ps n hn hp hm hps hml K ps.length 0 rfl (by omega)
  | succ d ih =>
    intro j hd hj0 hj hz
    have hlt : j < m.length := by omega
    have hl : (m.getD j []).length = n + 1 := hm _ (Sig.getD_mem (by omega))
    have he : rd (rd_L1 m (j : Int)) (t.length : Int) = Sig.ent m j n := by rw [rd_L1_nat, rd_nat, hn]; rfl
    rw [signatoryref13_Combine.l1, if_pos (by omega), if_pos (by omega), if_pos (by omega), he, rd_L1_nat, hl, if_pos (by omega)]
    by_cases h0 : Sig.ent m j n = 0
    · rw [if_pos h0, wrap_succ (by omega), ← Nat.add_assoc]
      exact ih (j + 1) (by omega) (by omega) (by omega) (fun i h1 h2 => by
        by_cases hi : i = j
        · subst hi; exact h0
        · exact hz i h1 (by omega))
    · rw [if_neg h0, fits_stop hj0 hlt h0]; rfl
theorem comb13_math (t : List (List Int)) (x : List Int) (h : combOk t x = true) (k : Nat) (hk : 90000 ≤ k) : signatoryref13_Combine.f k t x = some ((Sig.combine t x).getD [], (Sig.combine t x).isSome, 0) := by
  obtain ⟨hR, ht, hx0, hx⟩ := combOk_iff.1 h
  have hT : ∀ r ∈ t, r.length = x.length := fun r hr => (hR.1 r hr).1
  unfold signatoryref13_Combine.f; rw [error13_math t x hR hx ht k (by omega), Option.bind_some, if_pos rfl, turned13_math t x.length x.length hT (.inl (Nat.le_refl _)) ht hx k (by omega), Option.bind_some]
  obtain ⟨k, rfl⟩ : ∃ k', k = k' + x.length + 1 := ⟨k - x.length - 1, by omega⟩
  rw [show (0 : Int) = ((0 : Nat) : Int) from rfl, comb13_l0 t x ht hx k x.length 0 _ rfl (by omega) (by simp)]; have hTR := Sig.turned_rect hR; have hI := Sig.inv_reduce hTR t.length (by omega)
  have hRed : signatoryref13_RedS.f (Sig.turned t x) (t.length : Int) = some ((Sig.reduce (Sig.turned t x) t.length).1, (Sig.reduce (Sig.turned t x) t.length).2.map fun (x : Nat) => (x : Int)) := by
    unfold signatoryref13_RedS.f signatoryref13_Reduced.f; have hl := Sig.turned_length t x; rw [Option.bind_some, if_pos (by simp; omega), List.nil_append]; have := red_l0 (Sig.turned t x) (t.length + 1) t.length hTR (by omega) (by omega) (by omega) t.length 0 rfl (by omega) 100000 (by omega); rw [Sig.reduce_zero] at this; exact this
  rw [hRed, Option.bind_some]; generalize hm : (Sig.reduce (Sig.turned t x) t.length).1 = m at hI; generalize hp : (Sig.reduce (Sig.turned t x) t.length).2 = ps at hI
  have hml : m.length = x.length := by rw [hI.2, Sig.turned_length]
  have hpl := hI.1.few; rw [List.length_map]
  obtain ⟨q, hq⟩ : ∃ q, k = q + (m.length - ps.length) + 1 := ⟨k - (m.length - ps.length) - 1, by omega⟩
  rw [hq]; rw [comb13_l1 t m ps t.length rfl ht (Sig.inv_places hI.1) (fun r hr => (hI.1.rect r hr).1) hpl (by omega) q (by omega) (m.length - ps.length) ps.length rfl (Nat.le_refl _) hpl (fun i h1 h2 => by omega)]; unfold Sig.combine; rw [hm, hp]
  by_cases hf : Sig.fits m ps.length t.length = true
  · rw [if_pos hf, if_pos hf]; rfl
  · rw [if_neg hf, if_neg hf]; rfl
end Go.Proofs.Ytdbamhckgaoibaa.P
namespace Go.Proofs.Ytdbamhckgaoibaa.P
open Go.RowKit Go.Proofs.YtdbamhckgaoibaaW.PrintWords Go.Proofs.YtdbamhckgaoibaaW.PrintLast Go.Proofs.YtdbamhckgaoibaaW.PrintMore
attribute [local go_sem] max2_int min2_int max_two min_two max_three min_three max_four min_four
set_option linter.unusedVariables false
set_option linter.unusedSimpArgs false
mutual
def program_Check.j0 : Nat → Bool → List (List Int) → List Int → Option (Int)
 | 0, _, _, _ => none
 | k + 1, x16, x116000, x116001 => if x16 = true then (some 2) else (if (x116000.length : Int) = (x116001.length : Int) then (program_Check.l0 k x116000 (x116000.length : Int) 0 x116000 x116001) else (some 230))
def program_Check.l0 : Nat → List (List Int) → Int → Int → List (List Int) → List Int → Option (Int)
 | 0, _, _, _, _, _ => none
 | k + 1, x25, x26, x27, x116000, x116001 => if x27 < x26 then (if 0 ≤ x27 then (if x27 < (x25.length : Int) then (if ((rd_L1 x25 x27).length : Int) = 0 then (some 230) else (if 0 < (x116000.length : Int) then (if ((rd_L1 x25 x27).length : Int) = ((rd_L1 x116000 0).length : Int) then (if x27 < (x116001.length : Int) then ((program_isPerson.f (rd x116001 x27)).bind fun t120 => (if t120 = true then ((contains_odd.f (rd_L1 x25 x27)).bind fun t121 => (if t121 = true then (some 230) else (program_Check.l0 k x25 x26 (wrap64 (x27 + 1)) x116000 x116001))) else (some 230))) else (none)) else (some 230)) else (none))) else (none)) else (none)) else (some 0)
end
def program_Check.f (k : Nat) (l0_0 : List (List Int)) (l0_1 : List Int) : Option (Int) := if (l0_0.length : Int) > 64 then (program_Check.j0 k true l0_0 l0_1) else ((contains_long.f l0_0).bind fun t116 => (program_Check.j0 k t116 l0_0 l0_1))
set_option maxHeartbeats 8000000 in
set_option maxRecDepth 100000 in
theorem program_Check.calls (k : Nat) (A0_0 : Option Addr) (c0_0 : Nat) (l0_0 : List (List Int)) (A0_1 : Option Addr) (c0_1 : Nat) (l0_1 : List Int) (r : Int) (w : World) (hr0_0 : Kd.C (Kd.slice 3 (Kd.int .i64)) w A0_0 l0_0.length l0_0) (hc0_0 : l0_0.length ≤ c0_0) (hr0_1 : Kd.C (Kd.int .i64) w A0_1 l0_1.length l0_1) (hc0_1 : l0_1.length ≤ c0_1) (h : program_Check.f k l0_0 l0_1 = some r) :
  Calls Try.prog 82 #[.agg #[.slice A0_0 l0_0.length c0_0, .slice A0_1 l0_1.length c0_1]] w fun e w' => e = .returned (.int .i64 r) ∧ Below w.heap.size w w' := by
 have hu25 := Try.underlying25; have HR0_0 := Aside0.mk hr0_0; have HC0_0 := Aside0.mk hc0_0; clear hr0_0 hc0_0; have HR0_1 := Aside0.mk hr0_1; have HC0_1 := Aside0.mk hc0_1; clear hr0_1 hc0_1; have HB := Aside0.mk (Below.refl w.heap.size w); have H : (if (l0_0.length : Int) > 64 then (program_Check.j0 k true l0_0 l0_1) else ((contains_long.f l0_0).bind fun t116 => (program_Check.j0 k t116 l0_0 l0_1))) = some r := h; clear h; have HC2 := Aside0.mk H; clear H
 go_enter Try.func82, Try.ntmps82
 go_upto_region 2 with (first | ((with_reducible refine gate_dst (N := 1) rfl ?_); (try (refine gate_guard (by rfl) ?_; dsimp only)); refine box_event ?hg (N := 1) ?hd (cs := #[.slice A0_0 l0_0.length c0_0, .slice A0_1 l0_1.length c0_1]) (t := 25) ?hr ?_; (case hd => rfl); (case hg => rfl); (case hr => first | (go_simp; done) | (go_simp; rfl)); intro gb115 hg w3 hbox hb; have n0_ := Aside0.mk (below_step hb_ hb); have n1_ := Aside0.mk (hbox); have n2_ := Aside0.mk ((by rw [hg]; exact (below_size hb_) : w.heap.size ≤ gb115)); have n3_ := Aside0.mk ((by rw [hg]; exact (below_size hb_) : w.heap.size ≤ gb115)); clear HB; have HB := n0_; have BK115 := n1_; have GW115 := n2_; have GE_ := n3_; clear n0_ n1_ n2_ n3_; clear hb hbox hg))
 (try simp only [Act.put, List.setIfInBounds_toArray, List.set_cons_zero, List.set_cons_succ])
 go_cut [16] (fun v16 wc => ∃ (kq : Nat) (x16_1 : Bool), v16 = .bool x16_1 ∧ Aside0 (program_Check.j0 kq x16_1 l0_0 l0_1 = some r) ∧ Aside0 (kq ≤ k) ∧ Aside0 (wc.heap[gb115]? = some (.cells #[(.slice A0_0 l0_0.length c0_0), (.slice A0_1 l0_1.length c0_1)] 25 (0, 0))) ∧ Aside0 (Below w.heap.size w wc))
 case first =>
  have H := HC2.out; clear HC2
  by_cases c4 : (l0_0.length : Int) > 64
  ·rw [if_pos c4] at H
   have c4b0 : decide (64 < (l0_0.length : Int)) = true := decide_eq_true c4; have c4b1 : decide (64 < l0_0.length) = true := decide_eq_true (by omega); clear c4
   (first | rw [c4b0] | (simp only [i64_w, i32_w]; rw [c4b0]) | skip)
   have H' := Aside0.mk H; clear H; have hcz5_0 : w3.cell? ⟨gb115, 0, none⟩ = some (.slice A0_0 l0_0.length c0_0) := (blk_cell BK115.out 0).trans rfl; have hcz5_1 : w3.cell? ⟨gb115, 1, none⟩ = some (.slice A0_1 l0_1.length c0_1) := (blk_cell BK115.out 1).trans rfl; have hfz5_0 := blk_frozen BK115.out 0; have hfz5_1 := blk_frozen BK115.out 1; go_wp2
   go_meet
   case rel => exact ⟨_, (true), rf_, H', ⟨by first | omega | exact Nat.le_refl _⟩, ⟨bk_ BK115.out⟩, ⟨hg_⟩⟩
  ·rw [if_neg c4] at H
   have c4b0 : decide (64 < (l0_0.length : Int)) = false := decide_eq_false c4; have c4b1 : decide (64 < l0_0.length) = false := decide_eq_false (by omega); clear c4
   (first | rw [c4b0] | (simp only [i64_w, i32_w]; rw [c4b0]) | skip)
   replace H := Option.bind_eq_some_iff.mp H; obtain ⟨t116, A60, H⟩ := H; replace H : (program_Check.j0 k t116 l0_0 l0_1) = some r := H; have A6 := Aside0.mk A60; clear A60; have H' := Aside0.mk H; clear H; have hcz7_0 : w3.cell? ⟨gb115, 0, none⟩ = some (.slice A0_0 l0_0.length c0_0) := (blk_cell BK115.out 0).trans rfl; have hcz7_1 : w3.cell? ⟨gb115, 1, none⟩ = some (.slice A0_1 l0_1.length c0_1) := (blk_cell BK115.out 1).trans rfl; have hfz7_0 := blk_frozen BK115.out 0; have hfz7_1 := blk_frozen BK115.out 1; go_wp2_with (first | (go_at_call 157; (with_reducible refine (contains_long.calls _ _ l0_0  t116 _ ?side1 ?side2 A6.out).mono ?_); (case side1 => exact cb_ (Kd.C_below HR0_0.out HB.out)); (case side2 => exact HC0_0.out); rintro e w' ⟨rfl, ⟨nd, rfl⟩⟩))
   go_meet
   case rel => exact ⟨_, (t116), rf_, H', ⟨by first | omega | exact Nat.le_refl _⟩, ⟨bk_ BK115.out⟩, ⟨hg_⟩⟩
 case rest =>
  clear HC2; (try clear p2); (try clear c4); (try clear c4b0); (try clear c4b1); (try clear hcz5_0); (try clear hcz5_1); (try clear hcz7_0); (try clear hcz7_1); (try clear hfz5_0); (try clear hfz5_1); (try clear hfz7_0); (try clear hfz7_1); obtain ⟨kq, x16_1, rfl, HA, HJ1, BK115, HB⟩ := hcut
  cases kq with
  | zero => exact absurd HA.out (by simp [program_Check.j0])
  | succ kj1 =>
   have H := HA.out; clear HA; simp only [program_Check.j0] at H
   by_cases c8 : x16_1 = true
   ·subst c8
    have H1 : (some 2) = some r := by rw [if_pos rfl] at H; exact H
    clear H; have H := H1; clear H1; obtain rfl := Option.some.inj H; go_wp2
    go_ret
    exact ⟨by first | rfl | (simp [errW_none, errW_some] <;> rfl) | (simp [*, errW_none, errW_some] <;> rfl), by repeat (first | (with_reducible first | exact HB.out | apply below_alloc | apply pw_below_drewN | apply below_drew1 | refine below_set ?_ GE_.out) | exact HB.out)⟩
   ·replace c8 := Bool.eq_false_iff.mpr c8
    subst c8
    have H1 : (if (l0_0.length : Int) = (l0_1.length : Int) then (program_Check.l0 kj1 l0_0 (l0_0.length : Int) 0 l0_0 l0_1) else (some 230)) = some r := by rw [if_neg (show ¬ (false = true) by decide)] at H; exact H
    clear H; have H := H1; clear H1
    by_cases c9 : (l0_0.length : Int) = (l0_1.length : Int)
    ·rw [if_pos c9] at H
     have c9b0 : ((l0_0.length : Int) == (l0_1.length : Int)) = true := beq_iff_eq.mpr c9; have c9b1 : ((l0_0.length : Int) != (l0_1.length : Int)) = false := bne_eq_false_iff_eq.mpr c9
     have c9b2 : (l0_0.length == l0_1.length) = true := by first | simpa using c9 | (simp at c9 ⊢; omega)
     clear c9; have H' := Aside0.mk H; clear H; have hcz10_0 : wc.cell? ⟨gb115, 0, none⟩ = some (.slice A0_0 l0_0.length c0_0) := (blk_cell BK115.out 0).trans rfl; have hcz10_1 : wc.cell? ⟨gb115, 1, none⟩ = some (.slice A0_1 l0_1.length c0_1) := (blk_cell BK115.out 1).trans rfl; have hfz10_0 := blk_frozen BK115.out 0; have hfz10_1 := blk_frozen BK115.out 1; go_wp2
     go_loopg [27] kj1 (fun kq v27 w' => ∃ (x27_2 : Int), v27 = .int .i64 x27_2 ∧ Aside0 (program_Check.l0 kq l0_0 (l0_0.length : Int) x27_2 l0_0 l0_1 = some r) ∧ Aside0 (kq ≤ kj1) ∧ Aside0 (w'.heap[gb115]? = some (.cells #[(.slice A0_0 l0_0.length c0_0), (.slice A0_1 l0_1.length c0_1)] 25 (0, 0))) ∧ Aside0 (Below w.heap.size w w'))
     case atStart => exact ⟨(0), rf_, H', ⟨Nat.le_refl _⟩, ⟨bk_ BK115.out⟩, ⟨hg_⟩⟩
     case round =>
      clear H'; (try clear p2); (try clear c4); (try clear c4b0); (try clear c4b1); (try clear c8); (try clear c9); (try clear c9b0); (try clear c9b1); (try clear c9b2); (try clear hcz10_0); (try clear hcz10_1); (try clear hcz5_0); (try clear hcz5_1); (try clear hcz7_0); (try clear hcz7_1); (try clear hfz10_0); (try clear hfz10_1); (try clear hfz5_0); (try clear hfz5_1); (try clear hfz7_0); (try clear hfz7_1); (try clear p2); obtain ⟨x27_2, rfl, HA, HK2, BK115, HB⟩ := hrel
      cases gk with
      | zero => exact absurd HA.out (by simp [program_Check.l0])
      | succ k2 =>
       have H := HA.out; clear HA; simp only [program_Check.l0] at H
       by_cases c11 : x27_2 < (l0_0.length : Int)
       ·rw [if_pos c11] at H
        have c11b0 : decide (x27_2 < (l0_0.length : Int)) = true := decide_eq_true c11; clear c11
        by_cases c12 : 0 ≤ x27_2
        ·rw [if_pos c12] at H
         have c12b0 : decide (0 ≤ x27_2) = true := decide_eq_true c12; clear c12
         by_cases c13 : x27_2 < (l0_0.length : Int)
         ·rw [if_pos c13] at H
          have c13b0 : decide (x27_2 < (l0_0.length : Int)) = true := decide_eq_true c13; clear c13
          by_cases c14 : ((rd_L1 l0_0 x27_2).length : Int) = 0
          ·rw [if_pos c14] at H
           have c14b0 : (((rd_L1 l0_0 x27_2).length : Int) == 0) = true := beq_iff_eq.mpr c14; have c14b1 : (((rd_L1 l0_0 x27_2).length : Int) != 0) = false := bne_eq_false_iff_eq.mpr c14; clear c14; obtain rfl := Option.some.inj H; have p117 : 0 ≤ (x27_2 : Int) := of_decide_eq_true as_; have q117 : x27_2 < (l0_0.length : Int) := of_decide_eq_true as_; obtain ⟨ad117, A117_0, c117_0, e117, hx117_0, hl117_0, hi117_0⟩ := at_L1 HR0_0.out x27_2 p117 q117; cases e117; replace hx117_0 := (HB.out.cell (World.block_lt_of_cell? w _ hx117_0)).trans hx117_0; have HR117_0 := Aside0.mk hi117_0; have HC117_0 := Aside0.mk hl117_0; clear hi117_0 hl117_0; replace p117 := eq_true p117; replace q117 := eq_true q117; go_wp2
           go_ret
           exact ⟨by first | rfl | (simp [errW_none, errW_some] <;> rfl) | (simp [*, errW_none, errW_some] <;> rfl), by repeat (first | (with_reducible first | exact HB.out | apply below_alloc | apply pw_below_drewN | apply below_drew1 | refine below_set ?_ GE_.out) | exact HB.out)⟩
          ·rw [if_neg c14] at H
           have c14b0 : (((rd_L1 l0_0 x27_2).length : Int) == 0) = false := beq_eq_false_iff_ne.mpr c14; have c14b1 : (((rd_L1 l0_0 x27_2).length : Int) != 0) = true := bne_iff_ne.mpr c14
           have c14b2 : ¬ ((rd_L1 l0_0 x27_2) = []) := fun h_ => c14 (by rw [h_]; rfl)
           by_cases c15 : 0 < (l0_0.length : Int)
           ·rw [if_pos c15] at H
            have c15b0 : decide (0 < (l0_0.length : Int)) = true := decide_eq_true c15; have c15b1 : decide (0 < l0_0.length) = true := decide_eq_true (by omega); clear c15
            by_cases c16 : ((rd_L1 l0_0 x27_2).length : Int) = ((rd_L1 l0_0 0).length : Int)
            ·rw [if_pos c16] at H
             have c16b0 : (((rd_L1 l0_0 x27_2).length : Int) == ((rd_L1 l0_0 0).length : Int)) = true := beq_iff_eq.mpr c16; have c16b1 : (((rd_L1 l0_0 x27_2).length : Int) != ((rd_L1 l0_0 0).length : Int)) = false := bne_eq_false_iff_eq.mpr c16
             have c16b2 : ((rd_L1 l0_0 x27_2).length == (rd_L1 l0_0 0).length) = true := by first | simpa using c16 | (simp at c16 ⊢; omega)
             clear c16
             by_cases c17 : x27_2 < (l0_1.length : Int)
             ·rw [if_pos c17] at H
              have c17b0 : decide (x27_2 < (l0_1.length : Int)) = true := decide_eq_true c17; clear c17; replace H := Option.bind_eq_some_iff.mp H; obtain ⟨t120, A180, H⟩ := H; replace H : (if t120 = true then ((contains_odd.f (rd_L1 l0_0 x27_2)).bind fun t121 => (if t121 = true then (some 230) else (program_Check.l0 k2 l0_0 (l0_0.length : Int) (wrap64 (x27_2 + 1)) l0_0 l0_1))) else (some 230)) = some r := H; have A18 := Aside0.mk A180; clear A180
              by_cases c19 : t120 = true
              ·subst c19
               have H1 : ((contains_odd.f (rd_L1 l0_0 x27_2)).bind fun t121 => (if t121 = true then (some 230) else (program_Check.l0 k2 l0_0 (l0_0.length : Int) (wrap64 (x27_2 + 1)) l0_0 l0_1))) = some r := by rw [if_pos rfl] at H; exact H
               clear H; have H := H1; clear H1; replace H := Option.bind_eq_some_iff.mp H; obtain ⟨t121, A200, H⟩ := H; replace H : (if t121 = true then (some 230) else (program_Check.l0 k2 l0_0 (l0_0.length : Int) (wrap64 (x27_2 + 1)) l0_0 l0_1)) = some r := H; have A20 := Aside0.mk A200; clear A200
               by_cases c21 : t121 = true
               ·subst c21
                have H1 : (some 230) = some r := by rw [if_pos rfl] at H; exact H
                clear H; have H := H1; clear H1; obtain rfl := Option.some.inj H; have p117 : 0 ≤ (x27_2 : Int) := of_decide_eq_true as_; have q117 : x27_2 < (l0_0.length : Int) := of_decide_eq_true as_; obtain ⟨ad117, A117_0, c117_0, e117, hx117_0, hl117_0, hi117_0⟩ := at_L1 HR0_0.out x27_2 p117 q117; cases e117; replace hx117_0 := (HB.out.cell (World.block_lt_of_cell? w _ hx117_0)).trans hx117_0; have HR117_0 := Aside0.mk hi117_0; have HC117_0 := Aside0.mk hl117_0; clear hi117_0 hl117_0; replace p117 := eq_true p117; replace q117 := eq_true q117; have hcz22_0 : wr.cell? ⟨gb115, 0, none⟩ = some (.slice (some ad117) l0_0.length c0_0) := (blk_cell BK115.out 0).trans rfl; have hcz22_1 : wr.cell? ⟨gb115, 1, none⟩ = some (.slice A0_1 l0_1.length c0_1) := (blk_cell BK115.out 1).trans rfl; have hfz22_0 := blk_frozen BK115.out 0; have hfz22_1 := blk_frozen BK115.out 1
                have p118 : 0 ≤ (0 : Int) := (by omega)
                have q118 : 0 < (l0_0.length : Int) := of_decide_eq_true as_; obtain ⟨ad118, A118_0, c118_0, e118, hx118_0, hl118_0, hi118_0⟩ := at_L1 HR0_0.out 0 p118 q118
                obtain rfl : ad117 = ad118 := (by injection e118)
                have qi118 : (0 < l0_0.length) = True := eq_true (by omega); (try rw [show ((0 : Int)).toNat = 0 from rfl] at hx118_0); (try rw [Addr.add_zero'] at hx118_0); replace hx118_0 := (HB.out.cell (World.block_lt_of_cell? w _ hx118_0)).trans hx118_0; have HR118_0 := Aside0.mk hi118_0; have HC118_0 := Aside0.mk hl118_0; clear hi118_0 hl118_0; replace p118 := eq_true p118; replace q118 := eq_true q118; have p119 : 0 ≤ (x27_2 : Int) := of_decide_eq_true as_; have q119 : x27_2 < (l0_1.length : Int) := of_decide_eq_true as_; obtain ⟨ad119, e119, hx119_0⟩ := Kd.at_int HR0_1.out x27_2 p119 q119; cases e119; replace hx119_0 := (HB.out.cell (World.block_lt_of_cell? w _ hx119_0)).trans hx119_0; replace p119 := eq_true p119; replace q119 := eq_true q119; go_wp2_with (first | (go_at_call 160; (with_reducible refine (program_isPerson.calls (rd l0_1 x27_2) true _ A18.out).mono ?_); rintro e w' ⟨rfl, ⟨nd, rfl⟩⟩) | (go_at_call 161; (with_reducible refine (contains_odd.calls _ _ (rd_L1 l0_0 x27_2)  true _ ?side1 ?side2 A20.out).mono ?_); (case side1 => repeat (first | exact (Kd.C_below HR117_0.out hg_) | (with_reducible refine Kd.C_alloc ?_ _) | (with_reducible refine Kd.C_drewN ?_ _) | (with_reducible refine Kd.C_drew ?_))); (case side2 => exact HC117_0.out); rintro e w' ⟨rfl, ⟨nd, rfl⟩⟩))
                go_ret
                exact ⟨by first | rfl | (simp [errW_none, errW_some] <;> rfl) | (simp [*, errW_none, errW_some] <;> rfl), by repeat (first | (with_reducible first | exact HB.out | apply below_alloc | apply pw_below_drewN | apply below_drew1 | refine below_set ?_ GE_.out) | exact HB.out)⟩
               ·replace c21 := Bool.eq_false_iff.mpr c21
                subst c21
                have H1 : (program_Check.l0 k2 l0_0 (l0_0.length : Int) (wrap64 (x27_2 + 1)) l0_0 l0_1) = some r := by rw [if_neg (show ¬ (false = true) by decide)] at H; exact H
                clear H; have H := H1; clear H1; have H' := Aside0.mk H; clear H; have p117 : 0 ≤ (x27_2 : Int) := of_decide_eq_true as_; have q117 : x27_2 < (l0_0.length : Int) := of_decide_eq_true as_; obtain ⟨ad117, A117_0, c117_0, e117, hx117_0, hl117_0, hi117_0⟩ := at_L1 HR0_0.out x27_2 p117 q117; cases e117; replace hx117_0 := (HB.out.cell (World.block_lt_of_cell? w _ hx117_0)).trans hx117_0; have HR117_0 := Aside0.mk hi117_0; have HC117_0 := Aside0.mk hl117_0; clear hi117_0 hl117_0; replace p117 := eq_true p117; replace q117 := eq_true q117; have hcz23_0 : wr.cell? ⟨gb115, 0, none⟩ = some (.slice (some ad117) l0_0.length c0_0) := (blk_cell BK115.out 0).trans rfl; have hcz23_1 : wr.cell? ⟨gb115, 1, none⟩ = some (.slice A0_1 l0_1.length c0_1) := (blk_cell BK115.out 1).trans rfl; have hfz23_0 := blk_frozen BK115.out 0; have hfz23_1 := blk_frozen BK115.out 1
                have p118 : 0 ≤ (0 : Int) := (by omega)
                have q118 : 0 < (l0_0.length : Int) := of_decide_eq_true as_; obtain ⟨ad118, A118_0, c118_0, e118, hx118_0, hl118_0, hi118_0⟩ := at_L1 HR0_0.out 0 p118 q118
                obtain rfl : ad117 = ad118 := (by injection e118)
                have qi118 : (0 < l0_0.length) = True := eq_true (by omega); (try rw [show ((0 : Int)).toNat = 0 from rfl] at hx118_0); (try rw [Addr.add_zero'] at hx118_0); replace hx118_0 := (HB.out.cell (World.block_lt_of_cell? w _ hx118_0)).trans hx118_0; have HR118_0 := Aside0.mk hi118_0; have HC118_0 := Aside0.mk hl118_0; clear hi118_0 hl118_0; replace p118 := eq_true p118; replace q118 := eq_true q118; have p119 : 0 ≤ (x27_2 : Int) := of_decide_eq_true as_; have q119 : x27_2 < (l0_1.length : Int) := of_decide_eq_true as_; obtain ⟨ad119, e119, hx119_0⟩ := Kd.at_int HR0_1.out x27_2 p119 q119; cases e119; replace hx119_0 := (HB.out.cell (World.block_lt_of_cell? w _ hx119_0)).trans hx119_0; replace p119 := eq_true p119; replace q119 := eq_true q119; go_wp2_with (first | (go_at_call 160; (with_reducible refine (program_isPerson.calls (rd l0_1 x27_2) true _ A18.out).mono ?_); rintro e w' ⟨rfl, ⟨nd, rfl⟩⟩) | (go_at_call 161; (with_reducible refine (contains_odd.calls _ _ (rd_L1 l0_0 x27_2)  false _ ?side1 ?side2 A20.out).mono ?_); (case side1 => repeat (first | exact (Kd.C_below HR117_0.out hg_) | (with_reducible refine Kd.C_alloc ?_ _) | (with_reducible refine Kd.C_drewN ?_ _) | (with_reducible refine Kd.C_drew ?_))); (case side2 => exact HC117_0.out); rintro e w' ⟨rfl, ⟨nd, rfl⟩⟩))
                go_roundg k2
                case measure => have := HJ1.out; have := HK2.out; omega
                case rel => exact ⟨(wrap64 (x27_2 + 1)), rf_, H', ⟨by have := HJ1.out; have := HK2.out; omega⟩, ⟨bk_ BK115.out⟩, ⟨hg_⟩⟩
              ·replace c19 := Bool.eq_false_iff.mpr c19
               subst c19
               have H1 : (some 230) = some r := by rw [if_neg (show ¬ (false = true) by decide)] at H; exact H
               clear H; have H := H1; clear H1; obtain rfl := Option.some.inj H; have p117 : 0 ≤ (x27_2 : Int) := of_decide_eq_true as_; have q117 : x27_2 < (l0_0.length : Int) := of_decide_eq_true as_; obtain ⟨ad117, A117_0, c117_0, e117, hx117_0, hl117_0, hi117_0⟩ := at_L1 HR0_0.out x27_2 p117 q117; cases e117; replace hx117_0 := (HB.out.cell (World.block_lt_of_cell? w _ hx117_0)).trans hx117_0; have HR117_0 := Aside0.mk hi117_0; have HC117_0 := Aside0.mk hl117_0; clear hi117_0 hl117_0; replace p117 := eq_true p117; replace q117 := eq_true q117; have hcz24_0 : wr.cell? ⟨gb115, 0, none⟩ = some (.slice (some ad117) l0_0.length c0_0) := (blk_cell BK115.out 0).trans rfl; have hcz24_1 : wr.cell? ⟨gb115, 1, none⟩ = some (.slice A0_1 l0_1.length c0_1) := (blk_cell BK115.out 1).trans rfl; have hfz24_0 := blk_frozen BK115.out 0; have hfz24_1 := blk_frozen BK115.out 1
               have p118 : 0 ≤ (0 : Int) := (by omega)
               have q118 : 0 < (l0_0.length : Int) := of_decide_eq_true as_; obtain ⟨ad118, A118_0, c118_0, e118, hx118_0, hl118_0, hi118_0⟩ := at_L1 HR0_0.out 0 p118 q118
               obtain rfl : ad117 = ad118 := (by injection e118)
               have qi118 : (0 < l0_0.length) = True := eq_true (by omega); (try rw [show ((0 : Int)).toNat = 0 from rfl] at hx118_0); (try rw [Addr.add_zero'] at hx118_0); replace hx118_0 := (HB.out.cell (World.block_lt_of_cell? w _ hx118_0)).trans hx118_0; have HR118_0 := Aside0.mk hi118_0; have HC118_0 := Aside0.mk hl118_0; clear hi118_0 hl118_0; replace p118 := eq_true p118; replace q118 := eq_true q118; have p119 : 0 ≤ (x27_2 : Int) := of_decide_eq_true as_; have q119 : x27_2 < (l0_1.length : Int) := of_decide_eq_true as_; obtain ⟨ad119, e119, hx119_0⟩ := Kd.at_int HR0_1.out x27_2 p119 q119; cases e119; replace hx119_0 := (HB.out.cell (World.block_lt_of_cell? w _ hx119_0)).trans hx119_0; replace p119 := eq_true p119; replace q119 := eq_true q119; go_wp2_with (first | (go_at_call 160; (with_reducible refine (program_isPerson.calls (rd l0_1 x27_2) false _ A18.out).mono ?_); rintro e w' ⟨rfl, ⟨nd, rfl⟩⟩))
               go_ret
               exact ⟨by first | rfl | (simp [errW_none, errW_some] <;> rfl) | (simp [*, errW_none, errW_some] <;> rfl), by repeat (first | (with_reducible first | exact HB.out | apply below_alloc | apply pw_below_drewN | apply below_drew1 | refine below_set ?_ GE_.out) | exact HB.out)⟩
             ·rw [if_neg c17] at H
              exact absurd H (by simp)
            ·rw [if_neg c16] at H
             have c16b0 : (((rd_L1 l0_0 x27_2).length : Int) == ((rd_L1 l0_0 0).length : Int)) = false := beq_eq_false_iff_ne.mpr c16; have c16b1 : (((rd_L1 l0_0 x27_2).length : Int) != ((rd_L1 l0_0 0).length : Int)) = true := bne_iff_ne.mpr c16
             have c16b2 : ((rd_L1 l0_0 x27_2).length == (rd_L1 l0_0 0).length) = false := by first | simpa using c16 | (simp at c16 ⊢; omega)
             obtain rfl := Option.some.inj H; have p117 : 0 ≤ (x27_2 : Int) := of_decide_eq_true as_; have q117 : x27_2 < (l0_0.length : Int) := of_decide_eq_true as_; obtain ⟨ad117, A117_0, c117_0, e117, hx117_0, hl117_0, hi117_0⟩ := at_L1 HR0_0.out x27_2 p117 q117; cases e117; replace hx117_0 := (HB.out.cell (World.block_lt_of_cell? w _ hx117_0)).trans hx117_0; have HR117_0 := Aside0.mk hi117_0; have HC117_0 := Aside0.mk hl117_0; clear hi117_0 hl117_0; replace p117 := eq_true p117; replace q117 := eq_true q117; have hcz25_0 : wr.cell? ⟨gb115, 0, none⟩ = some (.slice (some ad117) l0_0.length c0_0) := (blk_cell BK115.out 0).trans rfl; have hcz25_1 : wr.cell? ⟨gb115, 1, none⟩ = some (.slice A0_1 l0_1.length c0_1) := (blk_cell BK115.out 1).trans rfl; have hfz25_0 := blk_frozen BK115.out 0; have hfz25_1 := blk_frozen BK115.out 1
             have p118 : 0 ≤ (0 : Int) := (by omega)
             have q118 : 0 < (l0_0.length : Int) := of_decide_eq_true as_; obtain ⟨ad118, A118_0, c118_0, e118, hx118_0, hl118_0, hi118_0⟩ := at_L1 HR0_0.out 0 p118 q118
             obtain rfl : ad117 = ad118 := (by injection e118)
             have qi118 : (0 < l0_0.length) = True := eq_true (by omega); (try rw [show ((0 : Int)).toNat = 0 from rfl] at hx118_0); (try rw [Addr.add_zero'] at hx118_0); replace hx118_0 := (HB.out.cell (World.block_lt_of_cell? w _ hx118_0)).trans hx118_0; have HR118_0 := Aside0.mk hi118_0; have HC118_0 := Aside0.mk hl118_0; clear hi118_0 hl118_0; replace p118 := eq_true p118; replace q118 := eq_true q118; go_wp2
             go_ret
             exact ⟨by first | rfl | (simp [errW_none, errW_some] <;> rfl) | (simp [*, errW_none, errW_some] <;> rfl), by repeat (first | (with_reducible first | exact HB.out | apply below_alloc | apply pw_below_drewN | apply below_drew1 | refine below_set ?_ GE_.out) | exact HB.out)⟩
           ·rw [if_neg c15] at H
            exact absurd H (by simp)
         ·rw [if_neg c13] at H
          exact absurd H (by simp)
        ·rw [if_neg c12] at H
         exact absurd H (by simp)
       ·rw [if_neg c11] at H
        have c11b0 : decide (x27_2 < (l0_0.length : Int)) = false := decide_eq_false c11; clear c11; obtain rfl := Option.some.inj H; go_wp2
        go_ret
        exact ⟨by first | rfl | (simp [errW_none, errW_some] <;> rfl) | (simp [*, errW_none, errW_some] <;> rfl), by repeat (first | (with_reducible first | exact HB.out | apply below_alloc | apply pw_below_drewN | apply below_drew1 | refine below_set ?_ GE_.out) | exact HB.out)⟩
    ·rw [if_neg c9] at H
     have c9b0 : ((l0_0.length : Int) == (l0_1.length : Int)) = false := beq_eq_false_iff_ne.mpr c9; have c9b1 : ((l0_0.length : Int) != (l0_1.length : Int)) = true := bne_iff_ne.mpr c9
     have c9b2 : (l0_0.length == l0_1.length) = false := by first | simpa using c9 | (simp at c9 ⊢; omega)
     obtain rfl := Option.some.inj H; have hcz26_0 : wc.cell? ⟨gb115, 0, none⟩ = some (.slice A0_0 l0_0.length c0_0) := (blk_cell BK115.out 0).trans rfl; have hcz26_1 : wc.cell? ⟨gb115, 1, none⟩ = some (.slice A0_1 l0_1.length c0_1) := (blk_cell BK115.out 1).trans rfl; have hfz26_0 := blk_frozen BK115.out 0; have hfz26_1 := blk_frozen BK115.out 1; go_wp2
     go_ret
     exact ⟨by first | rfl | (simp [errW_none, errW_some] <;> rfl) | (simp [*, errW_none, errW_some] <;> rfl), by repeat (first | (with_reducible first | exact HB.out | apply below_alloc | apply pw_below_drewN | apply below_drew1 | refine below_set ?_ GE_.out) | exact HB.out)⟩
def dealing_numbers.f (l0 : List Int) : Option (Bool) := (contains_outQ.f l0).bind fun t122 => (some (!t122))
set_option maxHeartbeats 8000000 in
set_option maxRecDepth 100000 in
theorem dealing_numbers.calls (A0 : Option Addr) (c0 : Nat) (l0 : List Int) (r : Bool) (w : World) (hr0 : Kd.C (Kd.int .i64) w A0 l0.length l0) (hc0 : l0.length ≤ c0) (h : dealing_numbers.f l0 = some r) :
  Calls Try.prog 83 #[.slice A0 l0.length c0] w fun e w' => e = .returned (.bool r) ∧ Drawn0 w w' := by
 have HR0 := Aside0.mk hr0; have HC0 := Aside0.mk hc0; clear hr0 hc0; have H : ((contains_outQ.f l0).bind fun t122 => (some (!t122))) = some r := h; clear h; replace H := Option.bind_eq_some_iff.mp H; obtain ⟨t122, A20, H⟩ := H; replace H : (some (!t122)) = some r := H; have A2 := Aside0.mk A20; clear A20; obtain rfl := Option.some.inj H
 go_enter Try.func83, Try.ntmps83
 go_wp2_with (first | ((with_reducible refine gate_callee (f := 161) rfl ?_); refine goesL_ (some 4) rfl rfl Try.func161 (by kernel_rfl) rfl #[.slice A0 l0.length c0, .func (.func 162) #[] #[]] rfl mp_ ?_; (with_reducible refine (contains_outQ.calls _ _ l0  t122 _ ?side1 ?side2 A2.out).mono ?_); (case side1 => exact cb_ HR0.out); (case side2 => exact HC0.out); rintro e w' ⟨rfl, ⟨nd, rfl⟩⟩; refine ⟨_, rfl, ?_⟩))
 go_ret
 exact ⟨rf_, dr_⟩
def group_Mul.f (a0 : Int) (a1 : Int) : Option (Int × Int) := (group_Valid.f a0).bind fun t113 => (if t113 = true then ((group_Valid.f a1).bind fun t114 => (if t114 = true then (some (Int.tmod (wrap64 (a0 * a1)) 2147483579, 0)) else (some (0, 100)))) else (some (0, 100)))
set_option maxHeartbeats 8000000 in
set_option maxRecDepth 100000 in
theorem group_Mul.calls (a0 : Int) (a1 : Int) (r1 : Int) (r2 : Int) (w : World) (h : group_Mul.f a0 a1 = some (r1, r2)) :
  Calls Try.prog 37 #[.int .i64 a0, .int .i64 a1] w fun e w' => e = .returned (.tuple #[.int .i64 r1, .int .i64 r2]) ∧ Drawn0 w w' := by
 have H : ((group_Valid.f a0).bind fun t113 => (if t113 = true then ((group_Valid.f a1).bind fun t114 => (if t114 = true then (some (Int.tmod (wrap64 (a0 * a1)) 2147483579, 0)) else (some (0, 100)))) else (some (0, 100)))) = some (r1, r2) := h; clear h; replace H := Option.bind_eq_some_iff.mp H; obtain ⟨t113, A30, H⟩ := H; replace H : (if t113 = true then ((group_Valid.f a1).bind fun t114 => (if t114 = true then (some (Int.tmod (wrap64 (a0 * a1)) 2147483579, 0)) else (some (0, 100)))) else (some (0, 100))) = some (r1, r2) := H; have A3 := Aside0.mk A30; clear A30
 by_cases c4 : t113 = true
 ·subst c4
  have H1 : ((group_Valid.f a1).bind fun t114 => (if t114 = true then (some (Int.tmod (wrap64 (a0 * a1)) 2147483579, 0)) else (some (0, 100)))) = some (r1, r2) := by rw [if_pos rfl] at H; exact H
  clear H; have H := H1; clear H1; replace H := Option.bind_eq_some_iff.mp H; obtain ⟨t114, A50, H⟩ := H; replace H : (if t114 = true then (some (Int.tmod (wrap64 (a0 * a1)) 2147483579, 0)) else (some (0, 100))) = some (r1, r2) := H; have A5 := Aside0.mk A50; clear A50
  by_cases c6 : t114 = true
  ·subst c6
   have H1 : (some (Int.tmod (wrap64 (a0 * a1)) 2147483579, 0)) = some (r1, r2) := by rw [if_pos rfl] at H; exact H
   clear H; have H := H1; clear H1; simp only [Option.some.injEq, Prod.mk.injEq] at H; obtain ⟨rfl, rfl⟩ := H
   go_enter Try.func37, Try.ntmps37
   go_wp2_with (first | ((with_reducible refine gate_callee (f := 104) rfl ?_); refine goesL_ (some 7) rfl rfl Try.func104 (by kernel_rfl) rfl #[.int .i64 a0] rfl mp_ ?_; (with_reducible refine (group_Valid.calls a0 true _ A3.out).mono ?_); rintro e w' ⟨rfl, ⟨nd, rfl⟩⟩; refine ⟨_, rfl, ?_⟩) | (go_at_call 104; (with_reducible refine (group_Valid.calls a1 true _ A5.out).mono ?_); rintro e w' ⟨rfl, ⟨nd, rfl⟩⟩))
   go_ret2
   exact ⟨rf_, dr_⟩
  ·replace c6 := Bool.eq_false_iff.mpr c6
   subst c6
   have H1 : (some (0, 100)) = some (r1, r2) := by rw [if_neg (show ¬ (false = true) by decide)] at H; exact H
   clear H; have H := H1; clear H1; simp only [Option.some.injEq, Prod.mk.injEq] at H; obtain ⟨rfl, rfl⟩ := H
   go_enter Try.func37, Try.ntmps37
   go_wp2_with (first | ((with_reducible refine gate_callee (f := 104) rfl ?_); refine goesL_ (some 7) rfl rfl Try.func104 (by kernel_rfl) rfl #[.int .i64 a0] rfl mp_ ?_; (with_reducible refine (group_Valid.calls a0 true _ A3.out).mono ?_); rintro e w' ⟨rfl, ⟨nd, rfl⟩⟩; refine ⟨_, rfl, ?_⟩) | (go_at_call 104; (with_reducible refine (group_Valid.calls a1 false _ A5.out).mono ?_); rintro e w' ⟨rfl, ⟨nd, rfl⟩⟩))
   go_ret2
   exact ⟨rf_, dr_⟩
 ·replace c4 := Bool.eq_false_iff.mpr c4
  subst c4
  have H1 : (some (0, 100)) = some (r1, r2) := by rw [if_neg (show ¬ (false = true) by decide)] at H; exact H
  clear H; have H := H1; clear H1; simp only [Option.some.injEq, Prod.mk.injEq] at H; obtain ⟨rfl, rfl⟩ := H
  go_enter Try.func37, Try.ntmps37
  go_wp2_with (first | ((with_reducible refine gate_callee (f := 104) rfl ?_); refine goesL_ (some 7) rfl rfl Try.func104 (by kernel_rfl) rfl #[.int .i64 a0] rfl mp_ ?_; (with_reducible refine (group_Valid.calls a0 false _ A3.out).mono ?_); rintro e w' ⟨rfl, ⟨nd, rfl⟩⟩; refine ⟨_, rfl, ?_⟩))
  go_ret2
  exact ⟨rf_, dr_⟩
end Go.Proofs.Ytdbamhckgaoibaa.P
namespace Go.Proofs.Ytdbamhckgaoibaa.P
open Go.RowKit Go.Proofs.YtdbamhckgaoibaaW.PrintWords Go.Proofs.YtdbamhckgaoibaaW.PrintLast Go.Proofs.YtdbamhckgaoibaaW.PrintMore
theorem inF_ofC {l : List Int} (h : l.any outQ = false) : ∀ x ∈ l, Sig.InF x := fun x hx => by
  have := List.any_eq_false.1 h x hx; unfold Sig.InF
  simp [outQ] at this
  omega
def goodAt (rows : List (List Int)) (owners : List Int) (i : Nat) : Bool :=
  (rows.getD i []).length != 0 && (rows.getD i []).length == (rows.getD 0 []).length && (decide (0 ≤ owners.getD i 0) && decide (owners.getD i 0 ≤ 63)) && !(rows.getD i []).any outQ
def goodFrom (rows : List (List Int)) (owners : List Int) : Nat → Nat → Bool
  | 0, _ => true
  | d + 1, i => goodAt rows owners i && goodFrom rows owners d (i + 1)
def checkP (rows : List (List Int)) (owners : List Int) : Int :=
  if decide (64 < rows.length) || rows.any isLong then 2 else if rows.length = owners.length then (if goodFrom rows owners rows.length 0 then 0 else 230) else 230
theorem rdL0 (rows : List (List Int)) : rd_L1 rows 0 = rows.getD 0 [] := rfl
theorem isPerson_math (n : Int) : program_isPerson.f n = some (decide (0 ≤ n) && decide (n ≤ 63)) := by
  unfold program_isPerson.f
  rw [within_math]; rfl
theorem check_l0 (rows : List (List Int)) (owners : List Int) (hn : rows.length < 1000000) (ho : rows.length = owners.length) (k : Nat) :
    ∀ d i, rows.length - i = d → i ≤ rows.length → program_Check.l0 (k + d + 1) rows (rows.length : Int) (i : Int) rows owners = some (if goodFrom rows owners d i then 0 else 230) := by
  intro d
  induction d with
  | zero =>
    intro i hd hi
    obtain rfl : i = rows.length := by omega
    rw [program_Check.l0, if_neg (by omega)]; rfl
  | succ d ih =>
    intro i hd hi; rw [program_Check.l0, if_pos (by omega), if_pos (by omega), if_pos (by omega), rd_L1_nat, rd_nat, rdL0, isPerson_math, goodFrom]; unfold goodAt
    by_cases h0 : (rows.getD i []).length = 0
    · have e0 : ((rows.getD i []).length != 0) = false := bne_eq_false_iff_eq.2 h0
      rw [if_pos (by omega), e0]; simp only [Bool.false_and, Bool.false_eq_true, if_false]
    · rw [if_neg (by omega), if_pos (by omega)]
      by_cases h1 : (rows.getD i []).length = (rows.getD 0 []).length
      · rw [if_pos (by omega), if_pos (by omega)]
        have e0 : ((rows.getD i []).length != 0) = true := bne_iff_ne.2 h0; have e1 : ((rows.getD i []).length == (rows.getD 0 []).length) = true := beq_iff_eq.2 h1; rw [e0, e1]; simp only [Option.bind_some, Bool.true_and]
        cases hp : (decide (0 ≤ owners.getD i 0) && decide (owners.getD i 0 ≤ 63)) with
        | false => simp
        | true =>
          rw [if_pos rfl]; unfold contains_odd.f; simp only [Option.bind_some]
          cases hq : (rows.getD i []).any outQ with
          | true => simp
          | false =>
            rw [if_neg (by simp), wrap_succ (by omega), ← Nat.add_assoc, ih (i + 1) (by omega) (by omega)]
            simp
      · rw [if_neg (by omega)]
        have e1 : ((rows.getD i []).length == (rows.getD 0 []).length) = false := beq_eq_false_iff_ne.2 h1
        rw [e1]; simp
theorem check_math (rows : List (List Int)) (owners : List Int) (k : Nat) (hk : 66 ≤ k) : program_Check.f k rows owners = some (checkP rows owners) := by
  obtain ⟨k, rfl⟩ : ∃ k', k = k' + 1 := ⟨k - 1, by omega⟩
  unfold program_Check.f checkP
  by_cases h : 64 < rows.length
  · rw [if_pos (by omega), program_Check.j0, if_pos rfl]; simp [h]
  · rw [if_neg (by omega)]
    unfold contains_long.f; simp only [Option.bind_some]; rw [program_Check.j0]
    cases hl : rows.any isLong with
    | true => rw [if_pos rfl]; simp
    | false =>
      rw [if_neg (by simp)]; have e : decide (64 < rows.length) = false := decide_eq_false h; rw [e]
      by_cases ho : rows.length = owners.length
      · rw [if_pos (by omega), show k = (k - rows.length - 1) + rows.length + 1 from by omega]
        have := check_l0 rows owners (by omega) ho (k - rows.length - 1) rows.length 0 (by omega) (by omega); rw [show ((0 : Nat) : Int) = 0 from rfl] at this; rw [this]
        simp [ho]
      · rw [if_neg (by omega)]
        simp [ho]
structure RightP (rows : List (List Int)) (owners : List Int) : Prop where
  few : rows.length ≤ 64
  own : rows.length = owners.length
  row : ∀ i, i < rows.length → (rows.getD i []).length ≠ 0 ∧ (rows.getD i []).length = (rows.getD 0 []).length ∧ (rows.getD i []).length ≤ 64 ∧ ∀ x ∈ rows.getD i [], Sig.InF x
  owner : ∀ i, i < rows.length → 0 ≤ owners.getD i 0 ∧ owners.getD i 0 ≤ 63
theorem goodFrom_iff (rows : List (List Int)) (owners : List Int) : ∀ d i, goodFrom rows owners d i = true ↔ ∀ j, i ≤ j → j < i + d → goodAt rows owners j = true
  | 0, i => ⟨fun _ j h1 h2 => by omega, fun _ => rfl⟩
  | d + 1, i => by
    rw [goodFrom, Bool.and_eq_true, goodFrom_iff rows owners d (i + 1)]; constructor
    · rintro ⟨h1, h2⟩ j h3 h4
      by_cases e : j = i
      · subst e; exact h1
      · exact h2 j (by omega) (by omega)
    · exact fun h => ⟨h i (by omega) (by omega), fun j h3 h4 => h j (by omega) (by omega)⟩
theorem check_ok {rows : List (List Int)} {owners : List Int} (h : checkP rows owners = 0) : RightP rows owners := by
  unfold checkP at h
  split at h
  · cases h
  · rename_i h1
    simp only [Bool.or_eq_true, decide_eq_true_eq, not_or] at h1
    split at h
    · rename_i h2
      split at h
      · rename_i h3
        rw [goodFrom_iff] at h3
        have hg : ∀ i, i < rows.length → _ := fun i hi => by
          have := h3 i (Nat.zero_le _) (by omega); unfold goodAt at this; simp only [Bool.and_eq_true, bne_iff_ne, beq_iff_eq, decide_eq_true_eq, Bool.not_eq_true'] at this; exact this
        refine ⟨by omega, h2, fun i hi => ?_, fun i hi => ?_⟩
        · obtain ⟨⟨⟨q1, q2⟩, q3⟩, q4⟩ := hg i hi
          refine ⟨q1, q2, ?_, inF_ofC q4⟩; have hm := Sig.getD_mem hi
          refine Nat.le_of_not_lt fun hlt => h1.2 (List.any_eq_true.2 ⟨_, hm, ?_⟩)
          unfold isLong; exact decide_eq_true hlt
        · obtain ⟨⟨⟨q1, q2⟩, q3⟩, q4⟩ := hg i hi
          exact q3
      · cases h
    · cases h
end Go.Proofs.Ytdbamhckgaoibaa.P
namespace Go.Proofs.Ytdbamhckgaoibaa.P
open Go.RowKit
def ordQ : Nat := 1073741789
theorem isEl_nat (x : Int) : isEl x = true ↔ 1 ≤ x ∧ x < 2147483579 ∧ x.toNat ^ ordQ % 2147483579 = 1 := by
  have e : ∀ y : Nat, y ^ (2147483579 / 2) = y ^ ordQ := fun y => by rw [show 2147483579 / 2 = ordQ from rfl]
  unfold isEl; rw [decide_eq_true_eq]; refine ⟨fun ⟨h1, h2, h3⟩ => ⟨h1, h2, ?_⟩, fun ⟨h1, h2, h3⟩ => ⟨h1, h2, ?_⟩⟩
  · have hn : ¬ 2147483579 ∣ x.toNat := fun hd => by have := Nat.le_of_dvd (by omega) hd; omega
    rw [← e]; exact (Sig.euler Sig.prime_P (by decide) hn).2 h3
  · have hn : ¬ 2147483579 ∣ x.toNat := fun hd => by have := Nat.le_of_dvd (by omega) hd; omega
    rw [← e] at h3; exact (Sig.euler Sig.prime_P (by decide) hn).1 h3
theorem isEl_iff (x : Int) : isEl x = true ↔ 1 ≤ x ∧ x < 2147483579 ∧ x ^ ordQ % 2147483579 = 1 := by
  rw [isEl_nat]; constructor
  · rintro ⟨h1, h2, h3⟩
    refine ⟨h1, h2, ?_⟩; rw [show x = (x.toNat : Int) by omega, ← Int.natCast_pow]; have := congrArg (fun n : Nat => (n : Int)) h3
    simpa using this
  · rintro ⟨h1, h2, h3⟩
    refine ⟨h1, h2, ?_⟩; rw [show x = (x.toNat : Int) by omega, ← Int.natCast_pow] at h3; omega
theorem el_of {x : Int} (h : x ^ ordQ % 2147483579 = 1) : isEl (x % 2147483579) = true := by
  rw [isEl_iff]
  have h1 : (x % 2147483579) ^ ordQ % 2147483579 = 1 := by rw [Sig.pow_emod]; exact h
  refine ⟨?_, by omega, h1⟩
  have h0 : x % 2147483579 ≠ 0 := fun h0 => by
    rw [h0, Int.zero_pow (by decide)] at h1; omega
  omega
theorem el_one_pow {x : Int} (h : isEl x = true) : x ^ ordQ % 2147483579 = 1 := ((isEl_iff x).1 h).2.2
theorem mulmod_one {a b : Int} (ha : a % 2147483579 = 1) (hb : b % 2147483579 = 1) : a * b % 2147483579 = 1 := by
  rw [Int.mul_emod, ha, hb]; rfl
theorem el_mul {a b : Int} (ha : isEl a = true) (hb : isEl b = true) : isEl (a * b % 2147483579) = true :=
  el_of (by rw [Int.mul_pow]; exact mulmod_one (el_one_pow ha) (el_one_pow hb))
theorem pow_one_mod {x : Int} (h : x % 2147483579 = 1) (n : Nat) : x ^ n % 2147483579 = 1 := by
  rw [← Sig.pow_emod, h, Int.one_pow]; rfl
theorem el_pow {a : Int} (ha : isEl a = true) (n : Nat) : isEl (a ^ n % 2147483579) = true :=
  el_of (by rw [← Int.pow_mul, Nat.mul_comm, Int.pow_mul]; exact pow_one_mod (el_one_pow ha) n)
theorem el_pow_mod {a : Int} (ha : isEl a = true) (n : Nat) : a ^ n % 2147483579 = a ^ (n % ordQ) % 2147483579 := by
  conv => lhs; rw [← Nat.div_add_mod n ordQ, Int.pow_add, Int.pow_mul, Int.mul_emod, pow_one_mod (el_one_pow ha), Int.one_mul, Int.emod_emod]
theorem two_pow_four {m n : Nat} (h : m = 2 * n) : (2 : Nat) ^ m = 4 ^ n := by rw [h, Nat.pow_mul]
theorem el_four : isEl 4 = true := by
  have h := Sig.fermat_gen (p := 2147483579) (a := 2) Sig.prime_P (by decide) (by omega); rw [two_pow_four (show 2147483579 - 1 = 2 * ordQ from rfl)] at h; have e4 : (4 : Int).toNat = 4 := rfl; rw [isEl_nat, e4]; exact ⟨by decide, by decide, h⟩
end Go.Proofs.Ytdbamhckgaoibaa.P
